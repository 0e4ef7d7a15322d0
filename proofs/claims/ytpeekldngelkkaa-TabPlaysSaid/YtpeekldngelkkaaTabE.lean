/- Contracts of a table's Get, of All, of slices.Clone. No condition. -/
import Derived.Test.YtpeekldngelkkaaTabA
import Derived.Lib.SliceRun
namespace Go.Proofs.Ytpeekldngelkkaa
open Go.RowKit

set_option maxHeartbeats 800000 in
theorem cloneV_some (b o n c : Nat) (v : Nat → V3) (w : World) (hn : n ≤ 16384) (hA : Sl w (some ⟨b, o, none⟩) (n * 3) (vcell v)) :
    Calls Try.prog 28 #[.slice (some ⟨b, o, none⟩) n c] w fun e w' => ∃ g cap, e = .returned (.slice (some ⟨g, 0, none⟩) n cap) ∧ Own w' w.heap.size 43 3 AnyV (.slice (some ⟨g, 0, none⟩) n cap) n (vcell v) ∧ Kept S0 w w' := by
  have q := fun (w : World) (a : Option Addr) (n c n' c' : Nat) => Lib.run_eql_slice_nil (P := Try.prog) w 24 43 a n c n' c' Try.underlying24
  have hown : Own (w.alloc (.cells #[] 43)) w.heap.size 43 3 AnyV (.slice (some ⟨w.heap.size, 0, none⟩) 0 0) 0 (vcell v) :=
    .inr ⟨w.heap.size, 0, fun _ => undef, rfl, Nat.le_refl _, Nat.le_refl _, Nat.zero_le _, ⟨#[], heap_alloc_new w _, rfl, fun i hi => absurd hi (by omega)⟩, fun i hi => absurd hi (by omega), fun i hi => absurd hi (by omega)⟩
  have hsl : Sl (w.alloc (.cells #[] 43)) (some ⟨b, o, none⟩) (n * 3) (vcell v) := (hA.slb.kept ((Kept.refl S0 w).alloc _) (Nat.le_refl _) (fun _ h => h.elim)).sl
  go_enter Try.func28, Try.ntmps28
  go_wp2_with (at_builtin; refine wpList_append_all rfl (.tmp 5) (.tmp 6) 24 rfl w.heap.size 43 (.agg #[.int .u8 0, .int .u64 0, .int .u64 0]) 3 24 Try.underlying24 Try.infoV rfl (by decide) AnyV (fun _ _ => trivial) _ 0 (vcell v) rfl hown (some ⟨b, o, none⟩) n c (vcell v) rfl hsl (fun h => by cases h) (fun _ _ => trivial) (fun _ _ => vcell_one _ _) (by unfold maxLen; omega) (by omega) (by simp) ?_)
  intro v' w' ha
  have H1 := Lib.hid ha
  obtain ⟨A', c', rfl, _⟩ := ha.own.out
  have hk : Kept S0 w w' := ((Kept.refl S0 w).alloc (.cells #[] 43)).grown ha.grown (fun k hk => by cases hk; exact .inr (Nat.le_refl _))
  have HK := Lib.hid hk
  clear hk ha
  go_wp2
  go_ret
  obtain ⟨g, rfl⟩ : ∃ g, A' = some ⟨g, 0, none⟩ := by
    rcases H1.out.own with ⟨e, hz⟩ | ⟨g, cap, fr, e, _⟩
    · exact absurd (H1.out.nil (by rw [e])) (by rintro ⟨h, _⟩; cases h)
    · cases e; exact ⟨g, rfl⟩
  refine ⟨g, c', by simp, ?_, HK.out⟩
  exact H1.out.own.congr (fun i hi => by simp [after])

theorem cloneV_nil (w : World) : Calls Try.prog 28 #[.slice none 0 0] w fun e w' => e = .returned (.slice none 0 0) ∧ w = w' := by
  have q := fun (w : World) (a : Option Addr) (n c n' c' : Nat) => Lib.run_eql_slice_nil (P := Try.prog) w 24 43 a n c n' c' Try.underlying24
  go_enter Try.func28, Try.ntmps28
  go_wp2
  go_ret
  exact ⟨rfl, rfl⟩

section
variable {w : World} {tb base N : Nat} {el mn mx : Int} {bd : Bool} {lv : Value} {f : Nat → V3}

set_option maxHeartbeats 800000 in
theorem all_made (hm : TabAt w tb base N el mn mx bd lv f) (hN : N ≤ 16384) :
    Calls Try.prog 10 #[.pointer (some ⟨tb, 0, none⟩)] w fun e w' => ∃ v, e = .returned v ∧ Own w' w.heap.size 43 3 AnyV v N (vcell f) ∧ Kept S0 w w' := by
  have c0 := hm.c0
  have c5 := hm.c5
  rcases hm.own with ⟨rfl, rfl⟩ | ⟨g, cap, fr, rfl, hbg, hNc, hcm, hrow, hF, hQ⟩
  · clear hm
    go_enter Try.func10, Try.ntmps10
    go_wp2_with fail
    refine (off_made _ _ c0).mono ?_
    rintro e w1 ⟨rfl, rfl⟩
    go_wp2_with fail
    refine (cloneV_nil _).mono ?_
    rintro e w2 ⟨rfl, rfl⟩
    go_wp2_with fail
    go_ret
    exact ⟨_, rfl, Own.nil _ _ _ _ _ _, Kept.refl _ _⟩
  · have hsl : Sl w (some ⟨g, 0, none⟩) (N * 3) (vcell f) := (Sl.of_row hrow (Nat.mul_le_mul_right _ hNc)).congr hF
    have HS := Lib.hid hsl
    clear hm hrow hF hQ hsl
    go_enter Try.func10, Try.ntmps10
    go_wp2_with fail
    refine (off_made _ _ c0).mono ?_
    rintro e w1 ⟨rfl, rfl⟩
    go_wp2_with fail
    refine (cloneV_some g 0 N cap f _ hN HS.out).mono ?_
    rintro e w2 ⟨g2, cap2, rfl, ho, hk⟩
    go_wp2_with fail
    go_ret
    exact ⟨_, rfl, ho, hk⟩
end
end Go.Proofs.Ytpeekldngelkkaa
