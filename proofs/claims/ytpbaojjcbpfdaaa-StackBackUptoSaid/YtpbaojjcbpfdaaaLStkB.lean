/- The walk of the statement StackBack. No condition. -/
import Derived.Test.YtpbaojjcbpfdaaaLStkD
import Derived.Deep.DeepCutAuto
namespace Go.Proofs.Ytpbaojjcbpfdaaa
open Go.RowKit

theorem StkAt.congr {w : World} {sb base n k : Nat} {v u : Nat → UInt8} {lv lf : Value} {F : Nat → Value} (h : StkAt w sb base n v lv k F lf) (he : ∀ i, i < n → v i = u i) : StkAt w sb base n u lv k F lf :=
  ⟨h.obj, h.vals.congr (fun i hi => by simp only [byteV]; rw [he i (by omega)]), h.frs, h.lo⟩

set_option maxHeartbeats 3200000 in
theorem stkBack_any (A B : Option Addr) (m c k d : Nat) (v u : Nat → UInt8) (w : World) (hA : Came (SB w.heap.size) w A m c v) (hB : Came (SB w.heap.size) w B k d u) (hsum : m + k ≤ 140737488351232) :
    Calls Try.prog 3 #[.slice A m c, .slice B k d] w fun e w' => e = .returned (.bool true) ∧ Kept S0 w w' := by
  have HA := Lib.hid hA
  have HB := Lib.hid hB
  clear hA hB
  go_enter Try.func3, Try.ntmps3
  go_wp2_with fail
  refine (newstk_any w).mono ?_
  rintro e w1 ⟨sb, rfl, hm1, hk1⟩
  have hK1 : Kept (SB w.heap.size) w w1 := hk1.of0 _
  have HP := Lib.hid (push_any sb w.heap.size 0 0 m c _ v _ _ _ A w1 hm1 (HA.out.kept hK1).at (fun h => (HA.out.none h).1) (by omega) hk1.size)
  have HM1 := Lib.hid hm1
  have HK1 := Lib.hid hK1
  clear hm1 hk1 hK1
  go_wp2_with fail
  refine HP.out.mono ?_
  rintro e w2 ⟨rfl, l2, hm2, hk2, _⟩
  have hm2 := (hm2.congr (u := v) (fun i _ => by unfold afterB; rw [if_neg (by omega), Nat.sub_zero]))
  rw [Nat.zero_add] at hm2
  have hK2 : Kept (SB w.heap.size) w w2 := HK1.out.trans (hk2.mono HM1.out.sk)
  have HO := Lib.hid (open_any 2 0 0 0 0 0 none none u u v sb w.heap.size m _ _ _ w2 hm2 (came_nil u) (came_nil u) (by omega) (by omega) hK2.size)
  have HM2 := Lib.hid hm2
  have HK2 := Lib.hid hK2
  clear hm2 hk2 hK2 HP
  go_wp2_with fail
  refine HO.out.mono ?_
  rintro e w3 ⟨rfl, l3, lk, x, y, hm3, hk3, _, _, _, _, _⟩
  have hm3 := (hm3.congr (u := v) (fun i hi => by unfold afterB; rw [if_pos (by omega)]))
  rw [Nat.add_zero] at hm3
  obtain ⟨g, cc, rfl⟩ := hm3.lf_some
  have hK3 : Kept (SB w.heap.size) w w3 := HK2.out.trans (hk3.mono HM2.out.sk)
  have hf := frAt_new (F := fun _ => undef) 0 2 x y m false
  have HP3 := Lib.hid (push_any sb w.heap.size m 1 k d _ u _ _ _ B w3 hm3 (HB.out.kept hK3).at (fun h => (HB.out.none h).1) hsum hK3.size)
  have HM3 := Lib.hid hm3
  have HK3 := Lib.hid hK3
  have HF := Lib.hid hf
  clear hm3 hk3 hK3 hf HO
  go_wp2_with fail
  refine HP3.out.mono ?_
  rintro e w4 ⟨rfl, l4, hm4, hk4, _⟩
  have hK4 : Kept (SB w.heap.size) w w4 := HK3.out.trans (hk4.mono (fun i hi => HM3.out.sk i (by
    rcases hi with h | h | h
    · exact .inl h
    · exact .inr (.inl h)
    · simp [Value.ownBlock] at h)))
  have HM4 := Lib.hid hm4
  have HK4 := Lib.hid hK4
  clear hm4 hk4 hK4 HP3
  have u1 : IntKind.i64.wrap ((k : Int) - 1) = (k : Int) - 1 := IntWalk.i64_in _ (by omega)
  go_wp2_with fail
  go_loopw [6] (fun i wr => ∃ (r : Nat) (z : Int) (lj : Value), i = .int .i64 z ∧ z = (r : Int) - 1 ∧ r ≤ k ∧ StkAt wr sb w.heap.size (m + r) (afterB m v u) lj 1 (after (0 * 5) (fun _ => undef) (frC 2 x y m false)) (.slice (some ⟨g, 0, none⟩) (0 + 1) cc) ∧ Kept (SB w.heap.size) w wr) (fun i _ => (intOf i + 1).toNat)
  case atStart => exact ⟨k, _, l4, rfl, rfl, Nat.le_refl _, HM4.out, HK4.out⟩
  case round =>
    obtain ⟨r, z, lj, rfl, hz, hr, hmr, hk⟩ := hrel
    clear u1
    rcases Nat.eq_zero_or_pos r with hr0 | hr0
    · subst hr0
      obtain rfl : z = -1 := by omega
      have hmr := (hmr.congr (u := v) (fun i hi => by unfold afterB; rw [if_pos (by omega)]))
      rw [Nat.add_zero] at hmr
      have HJ := Lib.hid hmr
      have HK := Lib.hid hk
      have TF := Lib.hid (take_floor g 0 cc hmr (by omega) HF.out.f3 HF.out.f4)
      clear hmr hk hz
      go_wp2_with fail
      refine TF.out.mono ?_
      rintro e w6 ⟨rfl, hk6⟩
      have hm6 := HJ.out.kept0 hk6
      have hK6 := HK.out.then0 hk6
      have HV := Lib.hid (values_any hm6 (by omega))
      have HK6 := Lib.hid hK6
      clear hm6 hk6 hK6 TF
      go_wp2_with fail
      refine HV.out.mono ?_
      rintro e w7 ⟨zz, rfl, hz, hk7⟩
      obtain ⟨zA, zc, rfl, hzc⟩ := came_own (S := S0) hz (fun _ _ x => x) (by omega)
      have hK7 := HK6.out.then0 hk7
      have HT := Lib.hid (types_same zA A m zc c v v _ hzc.at (HA.out.kept hK7).at (by omega) (fun _ _ => rfl))
      have HK7 := Lib.hid hK7
      clear hk7 hK7 hz hzc HV
      go_wp2_with fail
      refine HT.out.mono ?_
      rintro e w8 ⟨rfl, hk8⟩
      go_wp2_with fail
      refine (lives_any _).mono ?_
      rintro e w9 ⟨rfl, hk9⟩
      go_wp2_with fail
      go_ret
      exact ⟨rfl, Kept.toS0 ((HK7.out.then0 hk8).then0 hk9)⟩
    · obtain ⟨s, rfl⟩ : ∃ s, r = s + 1 := ⟨r - 1, by omega⟩
      obtain rfl : z = (s : Int) := by omega
      have hsm : s < k := by omega
      have hsi : (s : Int) < (k : Int) := by omega
      have hs0 : (0 : Int) ≤ (s : Int) := by omega
      have uz : IntKind.i64.wrap ((s : Int) - 1) = (s : Int) - 1 := IntWalk.i64_in _ (by omega)
      obtain ⟨b, o, hBe, hb, hc⟩ := HB.out.sl (by omega)
      subst hBe
      have hcs := hc s hsm
      have hu : afterB m v u (m + s) = u s := by unfold afterB; rw [if_neg (by omega)]; congr 1; omega
      have hmr2 : StkAt wr sb w.heap.size ((m + s) + 1) (afterB m v u) lj 1 (after (0 * 5) (fun _ => undef) (frC 2 x y m false)) (.slice (some ⟨g, 0, none⟩) (0 + 1) cc) := hmr
      have TV := Lib.hid (take_value g 0 cc (m + s) m hmr2 (by omega) (by omega) HF.out.f3 (by omega))
      rw [hu] at TV
      have bne : (((u s).toNat : Int) != ((u s).toNat : Int)) = false := by simp
      have HJ := Lib.hid hmr
      have HK := Lib.hid hk
      clear hmr hmr2 hk hz hc
      go_wp2_with fail
      refine TV.out.mono ?_
      rintro e w6 ⟨rfl, l6, hm6, hk6, _⟩
      have hK6 := HK.out.trans (hk6.mono (fun i hi => by have e : i = sb := hi; rw [e]; exact HJ.out.lo))
      have d3 : w6.cell? ⟨b, o + s, none⟩ = some (.int .u8 ((u s).toNat : Int)) := (hK6.cell (p := ⟨b, o + s, none⟩) (World.block_lt_of_cell? _ _ hcs) hb).trans hcs
      have HK6 := Lib.hid hK6
      have HM6 := Lib.hid hm6
      clear hk6 hm6 hK6 hcs TV
      go_wp2_with fail
      go_roundw
      case rel => exact ⟨s, _, l6, rfl, rfl, by omega, HM6.out, HK6.out⟩
      case measure => simp [intOf]
end Go.Proofs.Ytpbaojjcbpfdaaa
