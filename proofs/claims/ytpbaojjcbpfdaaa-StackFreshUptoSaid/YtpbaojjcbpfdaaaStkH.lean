/- Contracts of TakeAll where it is refused, of Dead without a frame. No condition. -/
import Derived.Test.YtpbaojjcbpfdaaaStkG
namespace Go.Proofs.Ytpbaojjcbpfdaaa
open Go.RowKit

section
variable {w : World} {sb base n k : Nat} {v : Nat → UInt8} {lv lf : Value} {F : Nat → Value}

set_option maxHeartbeats 800000 in
theorem takeAll_empty (hm : StkAt w sb base n v lv 0 F lf) (x : Value) : Calls Try.prog 18 #[.pointer (some ⟨sb, 0, none⟩), x] w fun e w' => e = .returned (.int .i64 5) ∧ Kept S0 w w' := by
  have c0 := hm.c0
  have c2 := hm.c2
  obtain ⟨A, c, hlf, _, _, _⟩ := hm.frs.out
  rw [hlf] at c2
  clear hm
  go_enter Try.func18, Try.ntmps18
  go_wp2_with fail
  refine (off_made _ _ c0).mono ?_
  rintro e w1 ⟨rfl, rfl⟩
  go_wp2_with fail
  go_ret
  exact ⟨rfl, Kept.refl _ _⟩

set_option maxHeartbeats 800000 in
theorem dead_empty (hm : StkAt w sb base n v lv 0 F lf) : Calls Try.prog 17 #[.pointer (some ⟨sb, 0, none⟩)] w fun e w' => e = .returned (.int .i64 5) ∧ Kept S0 w w' := by
  have c0 := hm.c0
  have c2 := hm.c2
  obtain ⟨A, c, hlf, _, _, _⟩ := hm.frs.out
  rw [hlf] at c2
  clear hm
  go_enter Try.func17, Try.ntmps17
  go_wp2_with fail
  refine (off_made _ _ c0).mono ?_
  rintro e w1 ⟨rfl, rfl⟩
  go_wp2_with fail
  go_ret
  exact ⟨rfl, Kept.refl _ _⟩

/-- The values' slice is laid back. -/
theorem StkAt.back {w w2 : World} {p : Nat} {lj : Value} (h : StkAt w sb base n v lv k F lf) (h2 : StkAt w2 sb base p v lj k F lf) (hk : Kept (S1 sb) w w2) : StkAt (w2.setCell ⟨sb, 1, none⟩ lv) sb base n v lv k F lf ∧ Kept (S1 sb) w (w2.setCell ⟨sb, 1, none⟩ lv) := by
  have hkk : Kept (S1 sb) w (w2.setCell ⟨sb, 1, none⟩ lv) := hk.setCell (p := ⟨sb, 1, none⟩) (.inl rfl) _
  exact ⟨⟨h2.obj.set_ 1 _, h.vals.kept hkk (fun g' hg e => h.ne_v (by rw [hg]; exact congrArg some e)), h.frs.kept hkk (fun g' hg e => h.ne_f (by rw [hg]; exact congrArg some e)), h.lo⟩, hkk⟩

set_option maxHeartbeats 1600000 in
theorem takeAll_bad (g q c m cu h : Nat) (A : Option Addr) (u : Nat → UInt8) (dead : Bool) (hm : StkAt w sb base n v lv (q + 1) F (.slice (some ⟨g, 0, none⟩) (q + 1) c)) (hA : Came (S1 sb) w A m cu u) (hn : n ≤ 140737488351232) (hq : q ≤ 140737488351232) (hh : F (q * 5 + 3) = .int .i64 (h : Int)) (hd : F (q * 5 + 4) = .bool dead) (hhn : h ≤ n) (hp : pops v h dead u m n = none) :
    Calls Try.prog 18 #[.pointer (some ⟨sb, 0, none⟩), .slice A m cu] w fun e w' => e = .returned (.int .i64 5) ∧ StkAt w' sb base n v lv (q + 1) F (.slice (some ⟨g, 0, none⟩) (q + 1) c) ∧ Kept (S1 sb) w w' := by
  have c0 := hm.c0
  have c1 := hm.c1
  have c2 := hm.c2
  obtain ⟨Av, cv, hlv, _, _, _⟩ := hm.vals.out
  subst hlv
  have b1 : ((q : Int) + 1 == 0) = false := beq_eq_false_iff_ne.2 (by omega)
  have hml := hA.le
  have u1 : IntKind.i64.wrap ((m : Int) - 1) = (m : Int) - 1 := IntWalk.i64_in _ (by omega)
  have HM := Lib.hid hm
  have HA := Lib.hid hA
  have HP := Lib.hid hp
  clear hm hp hA
  go_enter Try.func18, Try.ntmps18
  go_wp2_with fail
  refine (off_made _ _ c0).mono ?_
  rintro e w1 ⟨rfl, rfl⟩
  go_wp2_with fail
  go_loopw [6] (fun i wr => ∃ (r : Nat) (z : Int) (p : Nat) (lj : Value), i = .int .i64 z ∧ z = (r : Int) - 1 ∧ r ≤ m ∧ h ≤ p ∧ p ≤ n ∧ pops v h dead u r p = none ∧ StkAt wr sb base p v lj (q + 1) F (.slice (some ⟨g, 0, none⟩) (q + 1) c) ∧ Kept (S1 sb) w wr) (fun i _ => (intOf i + 1).toNat)
  case atStart => exact ⟨m, _, n, _, rfl, rfl, Nat.le_refl _, hhn, Nat.le_refl _, HP.out, HM.out, Kept.refl _ _⟩
  case round =>
    obtain ⟨r, z, p, lj, rfl, hz, hr, hhp, hpn, hpo, hmr, hk⟩ := hrel
    clear u1
    rcases Nat.eq_zero_or_pos r with hr0 | hr0
    · subst hr0
      simp [pops] at hpo
    · obtain ⟨s, rfl⟩ : ∃ s, r = s + 1 := ⟨r - 1, by omega⟩
      obtain rfl : z = (s : Int) := by omega
      have hsm : s < m := by omega
      have hsi : (s : Int) < (m : Int) := by omega
      have hs0 : (0 : Int) ≤ (s : Int) := by omega
      have uz : IntKind.i64.wrap ((s : Int) - 1) = (s : Int) - 1 := IntWalk.i64_in _ (by omega)
      obtain ⟨b, o, hAe, hb, hc⟩ := HA.out.sl (by omega)
      subst hAe
      have hcs := hc s hsm
      have d3 : wr.cell? ⟨b, o + s, none⟩ = some (.int .u8 ((u s).toNat : Int)) := (hk.cell (p := ⟨b, o + s, none⟩) (World.block_lt_of_cell? _ _ hcs) hb).trans hcs
      have HJ := Lib.hid hmr
      have HK := Lib.hid hk
      have HPO := Lib.hid hpo
      clear hmr hk c0 c1 c2 hz hc hcs hpo
      go_wp2_with fail
      by_cases hph : p = h
      · have hpo := HPO.out
        rw [pops, if_pos hph] at hpo
        cases dead with
        | true =>
          rw [if_pos rfl] at hpo
          have HPO := Lib.hid hpo
          clear hpo
          refine (takeOf_dead g q c (u s) HJ.out hq (by rw [hph]; exact hh) hd).mono ?_
          rintro e w2 ⟨rfl, hk2⟩
          have HK2 := Lib.hid hk2
          clear hk2
          go_wp2_with fail
          go_roundw
          case rel => exact ⟨s, _, p, lj, rfl, rfl, by omega, hhp, hpn, HPO.out, HJ.out.kept0 HK2.out, HK.out.then0 HK2.out⟩
          case measure => simp [intOf]
        | false =>
          clear hpo
          refine (takeOf_ref (u s) HJ.out (take_floor g q c HJ.out hq (by rw [hph]; exact hh) hd)).mono ?_
          rintro e w2 ⟨rfl, hk2⟩
          have HJ2 := Lib.hid (HJ.out.kept0 hk2)
          have z1 := HJ2.out.obj.frozen 1
          have x1 := HJ2.out.c1
          have HK2 := Lib.hid (HK.out.then0 hk2)
          clear hk2
          go_wp2_with fail
          go_ret
          exact ⟨rfl, HM.out.back HJ2.out HK2.out⟩
      · have hpo := HPO.out
        rw [pops, if_neg hph] at hpo
        obtain ⟨j, rfl⟩ : ∃ j, p = j + 1 := ⟨p - 1, by omega⟩
        by_cases hcc : v j = u s ∨ v j = 0 ∨ u s = 0
        · have hpo2 : pops v h dead u s j = none := by
            rw [Nat.add_sub_cancel] at hpo
            rw [if_pos hcc] at hpo
            exact hpo
          have HPO := Lib.hid hpo2
          clear hpo hpo2
          refine (takeOf_value g q c j h (u s) HJ.out (by omega) hq hh (by omega) hcc).mono ?_
          rintro e w2 ⟨rfl, lj2, hm2, hk2, hl2⟩
          have HK2 := Lib.hid hk2
          have HM2 := Lib.hid hm2
          clear hk2 hm2 hl2
          go_wp2_with fail
          go_roundw
          case rel => exact ⟨s, _, j, lj2, rfl, rfl, by omega, by omega, by omega, HPO.out, HM2.out, HK.out.trans HK2.out⟩
          case measure => simp [intOf]
        · clear hpo
          refine (takeOf_bad g q c j h (u s) HJ.out (by omega) hq hh (by omega) hcc).mono ?_
          rintro e w2 ⟨rfl, hm2, hk2⟩
          have HJ2 := Lib.hid hm2
          have z1 := HJ2.out.obj.frozen 1
          have x1 := HJ2.out.c1
          have HK2 := Lib.hid (HK.out.trans hk2)
          clear hk2 hm2
          go_wp2_with fail
          go_ret
          exact ⟨rfl, HM.out.back HJ2.out HK2.out⟩
end
end Go.Proofs.Ytpbaojjcbpfdaaa
