/- Whatever the input, TabGrows returns true and its arguments read as they did. No condition. -/
import Derived.Test.YtpeekldngelkkaaLTabG
import Derived.Test.YtpeekldngelkkaaRow
namespace Go.Proofs.Ytpeekldngelkkaa
open Go.ChangeShapes Go.WideShapes Go.ChangeAt Go.RowKit Go.Joins

theorem Try.cells28 : Try.prog.cellsOf 28 = 1 := by kernel_rfl
theorem Try.bytes28 : Try.prog.bytesOf 28 = 4 := by kernel_rfl

set_option maxRecDepth 100000 in
set_option maxHeartbeats 1600000 in
theorem tabGrows_lifted (os : Os) (started : os.Started) (H : Type) (enc : TypeId × Value → H) :
    ReturnsInHanded {} Try.checked os 4 .any (Rows.tabGrowsSpec.pre6 enc Try.prog Try.f4 Rows.tabGrowsRow.domain false) (Rows.tabGrowsSpec.post enc Try.prog Try.f4 false true false false) := by
  refine returnsInHanded_of_change_sized (C := Try.checked) Try.own started (by kernel_rfl) Try.func4
    (ChangeSpec.witness6 (enc := enc) (C := Try.checked) false ⟨#[], #[.int .u8 0, .bool false, .int .u16 0, .slice none 0 0], []⟩ 8 (by kernel_rfl) (by kernel_rfl) (by kernel_rfl) (by kernel_rfl)) ?_
  intro W base args ds gs before hval0 hW hcnd hsz0 _
  have hsz : (DataW.weightsEach Try.prog (Try.f4.params.toList ++ Rows.tabGrowsSpec.plain.varTypes Try.prog) (ds ++ gs)).all (· ≤ reachBytes) = true := hsz0
  clear hsz0
  have hval : ∀ (j : Nat) t v, Try.f4.params[j]? = some t → args[j]? = some v → Value.okWide Try.prog W .any base t v := hval0
  have hW' := hW
  obtain ⟨p, q, hA0, hV, rfl, hfz, hnd⟩ := hW
  have hA : DataW.TrodAll enc Try.prog W 0 (fun _ => true) true Try.f4.params.toList args.toList ds p := hA0
  rw [Try.params4] at hA hval hsz
  obtain ⟨v0, v1, v2, v3, d0, d1, d2, d3, p0, p1, p2, p3, rfl, rfl, rfl, h0, h1, h2, h3⟩ := trodAll_four hA
  obtain ⟨rfl, rfl⟩ := trodVars_none hV
  obtain ⟨a, rfl, rfl, rfl, wa⟩ := open_int Try.underlying5 (hval 0 5 v0 rfl rfl) h0
  obtain ⟨bd, rfl, rfl, rfl⟩ := open_bool Try.underlying4 (hval 1 4 v1 rfl rfl) h1
  obtain ⟨b, rfl, rfl, rfl, wb⟩ := open_int Try.underlying32 (hval 2 32 v2 rfl rfl) h2
  obtain ⟨A, n, cp, zs, rfl, hnc, hcm, hzl, hsl, hwf, hnil, hsome⟩ := came_ints Try.underlying33 Try.underlying28 Try.cells28 (hval 3 33 v3 rfl rfl) h3
  obtain ⟨a, rfl⟩ := Int.eq_ofNat_of_zero_le (bounds_u8 wa).1
  obtain ⟨b, rfl⟩ := Int.eq_ofNat_of_zero_le (bounds_u16 wb).1
  have ba := (bounds_u8 wa).2
  have bb := (bounds_u16 wb).2
  have hn : n ≤ 140737488351232 := by
    by_cases hAn : A = none
    · obtain ⟨h, _⟩ := hnil hAn; omega
    · obtain rfl := hsome hAn
      have := List.all_eq_true.1 hsz _ (DataW.weights_mem_each (j := 3) (t := 33) rfl rfl (((lits (H := H) .u32 (zs.take n)).length + (lits (H := H) .u32 (zs.drop n)).length) * Try.prog.bytesOf 28)
        (by simp [DataW.weights, Try.underlying33]))
      rw [Try.bytes28] at this
      simp only [lits, List.length_map, List.length_take, List.length_drop, reachBytes, decide_eq_true_eq] at this
      omega
  have bd0 : ∀ x : Int, (Lit.int .u32 x).wf = true → 0 ≤ x ∧ x ≤ 4294967295 := fun x h => by simpa [Lit.wf, IntKind.min, IntKind.max, IntKind.signed, IntKind.bits] using h
  refine (grows_any a b bd A n cp (fun i => zs.getD i 0) W (by omega) (by omega) (hsl.take hnc) hn (fun i hi => bd0 _ (hwf _ (by
    have hi' : i < zs.length := by omega
    simp [List.getD, hi'])))).mono fun e W' ⟨he, hk⟩ => ?_
  subst he
  refine ⟨_, rfl, post_law Try.laidOut ?_ hW' rfl Try.underlying4 (by kernel_rfl) rfl hk.below0⟩
  rw [Try.params4]
  intro t ht
  simp at ht
  rcases ht with rfl | rfl | rfl | rfl <;> exact ⟨by kernel_rfl, of_decide_eq_true (by kernel_rfl)⟩

theorem tabGrows_holds : Rows.TabGrowsSaid :=
  OpenClaim.holds_of_wide 4 Try.f4 rfl rfl rfl rfl rfl rfl rfl ⟨rfl, rfl, rfl, rfl, rfl⟩ rfl rfl rfl rfl rfl (by kernel_rfl) Try.func4 (by kernel_rfl)
    (of_decide_eq_true (by kernel_rfl)) (by unfold Func.isWrapper; rw [if_neg (of_decide_eq_false (by kernel_rfl))]; exact ⟨rfl, rfl⟩)
    (fun os started H enc _ => tabGrows_lifted os started H enc)

#print axioms tabGrows_holds
end Go.Proofs.Ytpeekldngelkkaa
