/- StackFloor returns true and its arguments read as they did. Condition: what it reads is of bulk at most 1048576 (the second form). -/
import Derived.Test.YtpbaojjcbpfdaaaLStkF
import Derived.Test.YtpbaojjcbpfdaaaStkActL
namespace Go.Proofs.Ytpbaojjcbpfdaaa
open Go.ChangeShapes Go.WideShapes Go.ChangeAt Go.RowKit Go.Joins

set_option maxRecDepth 100000 in
set_option maxHeartbeats 1600000 in
theorem stackFloor_lifted (os : Os) (started : os.Started) (H : Type) (enc : TypeId × Value → H) (F : Stop.Interp) :
    ReturnsInHanded {} Try.checked os 6 .any ((Rows.OpenSpec.upto Rows.stackFloorSpec).pre6 enc Try.prog Try.f6 Rows.stackFloorUptoRow.domain false) (((Rows.OpenSpec.upto Rows.stackFloorSpec).at F).post enc Try.prog Try.f6 false true false false) := by
  refine returnsInHanded_of_cond (C := Try.checked) (s := Rows.OpenSpec.upto Rows.stackFloorSpec) (k := Rows.uptoSmall) rfl Try.own started (by kernel_rfl) Try.func6
    (OpenSpec.witness (enc := enc) (C := Try.checked) (s := Rows.OpenSpec.upto Rows.stackFloorSpec) (k := Rows.uptoSmall) rfl false ⟨#[], #[.slice none 0 0, .slice none 0 0], []⟩ 8 (by kernel_rfl) (by kernel_rfl) (by kernel_rfl)
      (x := ([.nil, .nil], [], [])) (by kernel_rfl) rfl (by kernel_rfl)) ?_
  intro W base args ds gs before hval0 hW _ hk0 _
  have hW' : DataW.Whole enc Try.prog Try.f6.params.toList Rows.stackFloorSpec.vars false W args.toList ds gs before := hW
  have hval : ∀ (j : Nat) t v, Try.f6.params[j]? = some t → args[j]? = some v → Value.okWide Try.prog W .any base t v := hval0
  obtain ⟨p, q, hA0, hV, rfl, hfz, hnd⟩ := hW
  have hA : DataW.TrodAll enc Try.prog W 0 (fun _ => true) true Try.f6.params.toList args.toList ds p := hA0
  rw [Try.params6] at hA hval
  obtain ⟨v0, v1, d0, d1, p0, p1, rfl, rfl, rfl, h0, h1⟩ := trodAll_two hA
  obtain ⟨rfl, rfl⟩ := trodVars_none hV
  have hb := bulk_bound hk0
  have hb0 := bulk_mem (H := H) (d := d0) (l := [d0, d1] ++ []) (by simp)
  have hb1 := bulk_mem (H := H) (d := d1) (l := [d0, d1] ++ []) (by simp)
  obtain ⟨A, m, c, v, rfl, hmc, hcr, hsl, hAn⟩ := came_bulk Try.underlying22 Try.underlying30 (by kernel_rfl) (hval 0 22 v0 rfl rfl) h0
  obtain ⟨fuel, hf⟩ := h1
  obtain ⟨A0, n0, c0, hv0⟩ := okWide_slice Try.underlying42 (hval 1 42 v1 rfl rfl)
  subst hv0
  obtain ⟨L, l, lc, a, hx, hacts⟩ := trod_acts hf (show Rows.uptoBulk d1 ≤ 1048576 by omega)
  cases hx
  refine (stkFloor_any A m c v A0 n0 c0 a W (came_arg hsl hmc (by omega) hAn) (by omega) hacts).mono fun e W' ⟨he, hk⟩ => ?_
  subst he
  refine ⟨_, rfl, post_law Try.laidOut ?_ hW' rfl Try.underlying4 (by kernel_rfl) rfl hk.below0⟩
  rw [Try.params6]
  intro t ht
  simp at ht
  rcases ht with rfl | rfl <;> exact ⟨by kernel_rfl, of_decide_eq_true (by kernel_rfl)⟩

theorem stackFloor_holds : Rows.StackFloorUptoSaid :=
  OpenClaim.holds_of_cond 6 Try.f6 rfl rfl rfl rfl rfl rfl rfl ⟨rfl, rfl, rfl, rfl, rfl⟩ rfl rfl rfl rfl rfl (by kernel_rfl) Try.func6 (by kernel_rfl)
    (of_decide_eq_true (by kernel_rfl)) (by unfold Func.isWrapper; rw [if_neg (of_decide_eq_false (by kernel_rfl))]; exact ⟨rfl, rfl⟩)
    (fun os started H enc _ F => stackFloor_lifted os started H enc F)

#print axioms stackFloor_holds
end Go.Proofs.Ytpbaojjcbpfdaaa
