/- Contracts of Types over lists that are the same, of Dead. No condition. -/
import Derived.Test.YtpbaojjcbpfdaaaStkB
import Derived.StillTailTactics
namespace Go.Proofs.Ytpbaojjcbpfdaaa
open Go.RowKit

set_option maxHeartbeats 1600000 in
theorem types_same (A B : Option Addr) (n c d : Nat) (v u : Nat → UInt8) (w : World) (hA : Sl w A n (byteV v)) (hB : Sl w B n (byteV u)) (hn : n ≤ 9223372036854775807) (he : ∀ i, i < n → v i = u i) :
    Calls Try.prog 14 #[.slice A n c, .slice B n d] w fun e w' => e = .returned (.bool true) ∧ Kept S0 w w' := by
  have HE := Lib.hid he
  clear he
  go_enter Try.func14, Try.ntmps14
  go_wp2
  go_loopw [5] (fun i wr => ∃ k : Nat, k ≤ n ∧ i = .int .i64 (k : Int) ∧ ∃ q, wr = w.drewN q) (fun i _ => n - (intOf i).toNat)
  case atStart => exact ⟨0, by omega, rfl, 0, rfl⟩
  case round =>
    obtain ⟨k, hk, rfl, q, rfl⟩ := hrel
    by_cases hlt : k < n
    · obtain ⟨b1, o1, rfl, h1⟩ := hA (by omega)
      obtain ⟨b2, o2, rfl, h2⟩ := hB (by omega)
      have d1 := h1 k hlt
      have d2 := h2 k hlt
      simp only [byteV] at d1 d2
      rw [HE.out k hlt] at d1
      have hb : (((u k).toNat : Int) != ((u k).toNat : Int)) = false := by simp
      clear hA hB h1 h2
      go_wp2
      go_quiet (fail)
      go_wp2
      go_roundw
      case rel => exact ⟨k + 1, by omega, by go_num, _, rfl⟩
      case measure => simp [intOf]; omega
    · obtain rfl : k = n := by omega
      go_wp2
      go_ret
      exact ⟨rfl, (Kept.refl S0 w).drewN q⟩

section
variable {w : World} {sb base n k : Nat} {v : Nat → UInt8} {lv lf : Value} {F : Nat → Value}

/-- A frame's cells, its deadness set. -/
def deadF (F : Nat → Value) (q : Nat) : Nat → Value := fun i => if i = q * 5 + 4 then .bool true else F i

set_option maxHeartbeats 1600000 in
theorem dead_any (g q c ht : Nat) (hm : StkAt w sb base n v lv (q + 1) F (.slice (some ⟨g, 0, none⟩) (q + 1) c)) (hq : q ≤ 140737488351232) (hh : F (q * 5 + 3) = .int .i64 (ht : Int)) (hlt : ht ≤ n) (hn : n ≤ 140737488351232) :
    Calls Try.prog 17 #[.pointer (some ⟨sb, 0, none⟩)] w fun e w' => e = .returned (.int .i64 0) ∧ ∃ lj, StkAt w' sb base ht v lj (q + 1) (deadF F q) (.slice (some ⟨g, 0, none⟩) (q + 1) c) ∧ Kept (fun i => i = sb ∨ i = g) w w' ∧ lj.ownBlock = lv.ownBlock := by
  have c0 := hm.c0
  have c1 := hm.c1
  have c2 := hm.c2
  obtain ⟨A, cv, hlv, hvc, _, _⟩ := hm.vals.out
  rw [hlv] at c1
  have hfr := hm.frs
  rcases hfr with ⟨h, _⟩ | ⟨g2, cap, fr, h, hbg, hc1, hc2, hrow, hF, hQ⟩
  · cases h
  have hgg : g = g2 ∧ c = cap := by cases h; exact ⟨rfl, rfl⟩
  obtain ⟨rfl, rfl⟩ := hgg
  have f3 : w.cell? ⟨g, q * 5 + 3, none⟩ = some (.int .i64 (ht : Int)) := by rw [← hh, ← hF _ (by omega)]; exact hrow.cell (by omega)
  have f4 : w.cell? ⟨g, q * 5 + 4, none⟩ = some (fr (q * 5 + 4)) := hrow.cell (by omega)
  have y4 := hrow.frozen (q * 5 + 4)
  have TP := Lib.hid (top_any (sb := sb) g q c w c2 hq)
  have b1 : ((q : Int) + 1 == 0) = false := beq_eq_false_iff_ne.2 (by omega)
  have z1 := hm.obj.frozen 1
  have hgs : g ≠ sb := fun e => hm.ne_f (by rw [← e]; rfl)
  have hgs2 : sb ≠ g := fun e => hgs e.symm
  obtain ⟨D, r1, d1⟩ := run_cut_h (P := Try.prog) 22 30 Try.underlying22 Try.sizeT A n cv .i64 (ht : Int) ht rfl (by omega)
  have HD := Lib.hid d1
  have HM := Lib.hid hm
  have HR := Lib.hid hrow
  have HF := Lib.hid hF
  clear hm hrow hF h hh d1
  go_enter Try.func17, Try.ntmps17
  go_wp2_with fail
  refine (off_made _ _ c0).mono ?_
  rintro e w1 ⟨rfl, rfl⟩
  go_wp2_with fail
  refine TP.out.mono ?_
  rintro e w1 ⟨rfl, m1, rfl⟩
  go_wp2_with fail
  have hk2 : Kept (S1 g) w ((w.drewN m1).setCell ⟨g, q * 5 + 4, none⟩ (.bool true)) := ((Kept.refl (S1 g) w).drewN m1).setCell (p := ⟨g, q * 5 + 4, none⟩) (.inl rfl) _
  have hob2 := hk2.blk HM.out.obj (fun e => hgs2 e)
  have hrow1 : (w.drewN m1).rowIs g 39 (c * 5) fr := ((Kept.refl S0 w).drewN m1).row HR.out (fun x => x)
  have hrow2 := hrow1.set (q * 5 + 4) (.bool true)
  generalize (w.drewN m1).setCell ⟨g, q * 5 + 4, none⟩ (.bool true) = w2 at *
  have t1 : w2.cell? ⟨sb, 1, none⟩ = some lv := hob2.cell 1
  rw [hlv] at t1
  have t3 : w2.cell? ⟨g, q * 5 + 3, none⟩ = some (.int .i64 (ht : Int)) := by
    have h := hrow2.cell (i := q * 5 + 3) (by omega)
    rw [if_neg (by omega)] at h
    rw [h, ← f3]
    exact (HR.out.cell (by omega)).symm
  have y1 := hob2.frozen 1
  have HOB := Lib.hid hob2
  have HROW := Lib.hid hrow2
  have HK2 := Lib.hid hk2
  clear hob2 hrow1 hrow2 hk2 c0 c1 c2 f3 f4 y4 z1
  go_still_tail 10, (by kernel_rfl)
  change wpList _ _ _ _ _ w2.drew
  go_wp2_with fail
  go_ret
  have hms := HM.out
  have hnv : lv.ownBlock ≠ some sb := hms.ne_v
  have hk3 : Kept (S1 sb) w2 (w2.drew.setCell ⟨sb, 1, none⟩ (.slice D ht cv)) := ((Kept.refl (S1 sb) w2).drew).setCell (p := ⟨sb, 1, none⟩) (.inl rfl) _
  have hkk : Kept (fun i => i = sb ∨ i = g) w (w2.drew.setCell ⟨sb, 1, none⟩ (.slice D ht cv)) := (HK2.out.mono (fun i hi => .inr hi)).trans (hk3.mono (fun i hi => .inl hi))
  have hset : Blk (w2.drew.setCell ⟨sb, 1, none⟩ (.slice D ht cv)) sb 58 #[.bool true, .slice D ht cv, .slice (some ⟨g, 0, none⟩) (q + 1) c] := (((Kept.refl S0 w2).drew).blk HOB.out (fun x => x)).set_ 1 _
  have hfr : Own (w2.drew.setCell ⟨sb, 1, none⟩ (.slice D ht cv)) base 39 5 AnyV (.slice (some ⟨g, 0, none⟩) (q + 1) c) (q + 1) (deadF F q) := .inr ⟨g, c, _, rfl, hbg, hc1, hc2, hk3.row HROW.out hgs, fun i hi => by
    show (if i = q * 5 + 4 then _ else fr i) = deadF F q i
    unfold deadF
    by_cases e : i = q * 5 + 4
    · rw [if_pos e, if_pos e]
    · rw [if_neg e, if_neg e]; exact HF.out i hi, fun _ _ => trivial⟩
  rcases hms.vals with ⟨h, h0⟩ | ⟨gv, cpv, frv, hv2, hbv, hnv2, hcv, hrv, hFv, hQv⟩
  · rw [hlv] at h
    have hn0 : n = 0 := h0
    have ht0 : ht = 0 := by omega
    have hA : A = none ∧ cv = 0 := by cases h; exact ⟨rfl, rfl⟩
    obtain ⟨rfl, rfl⟩ := hA
    have hD : D = none := by rw [HD.out, if_pos rfl]
    subst hD ht0
    exact ⟨rfl, _, ⟨hset, .inl ⟨rfl, rfl⟩, hfr, hms.lo⟩, hkk, by rw [hlv]; rfl⟩
  · rw [hlv] at hv2
    have hga : A = some ⟨gv, 0, none⟩ ∧ cv = cpv := by cases hv2; exact ⟨rfl, rfl⟩
    obtain ⟨rfl, rfl⟩ := hga
    have hD : D = some ⟨gv, 0, none⟩ := by
      rw [HD.out]
      split
      · rfl
      · simp [Addr.add_lit]
    subst hD
    have hgs3 : gv ≠ sb := fun e => hnv (by rw [hlv]; exact congrArg some e)
    have hgg3 : gv ≠ g := fun e => by
      subst e
      obtain ⟨cs1, p1, _, _⟩ := HR.out
      obtain ⟨cs2, p2, _, _⟩ := hrv
      rw [p1] at p2
      simp at p2
    exact ⟨rfl, _, ⟨hset, .inr ⟨gv, cv, frv, rfl, hbv, by omega, hcv, hk3.row (HK2.out.row hrv hgg3) hgs3, fun i hi => hFv i (by omega), hQv⟩, hfr, hms.lo⟩, hkk, by rw [hlv]; rfl⟩
end
end Go.Proofs.Ytpbaojjcbpfdaaa
