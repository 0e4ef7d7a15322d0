/- Whatever the input, MemGrows returns true and its arguments read as they did. No condition. -/
import Derived.Test.YtjkndigmoclnoaaLGrows
import Derived.Test.YtjkndigmoclnoaaRow
namespace Go.Proofs.Ytjkndigmoclnoaa
open Go.ChangeShapes Go.WideShapes Go.ChangeAt Go.RowKit Go.Joins

theorem Try.cells22 : Try.prog.cellsOf 22 = 1 := by kernel_rfl
theorem Try.bytes22 : Try.prog.bytesOf 22 = 4 := by kernel_rfl

theorem memGrows_any (mn mx : Int) (bd : Bool) (A : Option Addr) (n cp : Nat) (xs : Nat → Int) (c : Int) (w : World) (h1 : 0 ≤ mn ∧ mn ≤ 4294967295) (h3 : 0 ≤ mx ∧ mx ≤ 4294967295) (hc : 0 ≤ c ∧ c ≤ 255)
    (hA : Sl w A n (fun i => .int .u32 (xs i))) (hn : n ≤ 140737488351232) (hx : ∀ i, i < n → 0 ≤ xs i ∧ xs i ≤ 4294967295) :
    Calls Try.prog 3 #[.agg #[.int .u32 mn, .int .u32 mx, .bool bd], .slice A n cp, .int .u8 c] w fun e w' => e = .returned (.bool true) ∧ Kept S0 w w' := by
  obtain ⟨u, rfl⟩ : ∃ u : UInt8, c = (u.toNat : Int) := ⟨UInt8.ofNat c.toNat, by rw [UInt8.toNat_ofNat']; omega⟩
  by_cases hb : mayB mn mx bd 65536 = false ∨ 16 < mn
  · exact grows_bad mn mx bd A n cp u w h1.1 h1.2 h3.1 h3.2 hb
  · have hb1 : mayB mn mx bd 65536 = true := by
      cases h : mayB mn mx bd 65536
      · exact absurd (Or.inl h) hb
      · rfl
    have hb2 : ¬ 16 < mn := fun h => hb (Or.inr h)
    obtain ⟨m, rfl⟩ := Int.eq_ofNat_of_zero_le h1.1
    exact grows_good m mx bd A n cp xs u w (by omega) h3.1 h3.2 hb1 hA hn hx

set_option maxRecDepth 100000 in
set_option maxHeartbeats 1600000 in
theorem memGrows_lifted (os : Os) (started : os.Started) (H : Type) (enc : TypeId × Value → H) :
    ReturnsInHanded {} Try.checked os 3 .any (Rows.memGrowsSpec.pre6 enc Try.prog Try.f3 Rows.memGrowsRow.domain false) (Rows.memGrowsSpec.post enc Try.prog Try.f3 false true false false) := by
  refine returnsInHanded_of_change_sized (C := Try.checked) Try.own started (by kernel_rfl) Try.func3
    (ChangeSpec.witness6 (enc := enc) (C := Try.checked) false ⟨#[], #[.agg #[.int .u32 0, .int .u32 0, .bool false], .slice none 0 0, .int .u8 0], []⟩ 8 (by kernel_rfl) (by kernel_rfl) (by kernel_rfl) (by kernel_rfl)) ?_
  intro W base args ds gs before hval0 hW hcnd hsz0 _
  have hsz : (DataW.weightsEach Try.prog (Try.f3.params.toList ++ Rows.memGrowsSpec.plain.varTypes Try.prog) (ds ++ gs)).all (· ≤ reachBytes) = true := hsz0
  clear hsz0
  have hval : ∀ (j : Nat) t v, Try.f3.params[j]? = some t → args[j]? = some v → Value.okWide Try.prog W .any base t v := hval0
  have hW' := hW
  obtain ⟨p, q, hA0, hV, rfl, hfz, hnd⟩ := hW
  have hA : DataW.TrodAll enc Try.prog W 0 (fun _ => true) true Try.f3.params.toList args.toList ds p := hA0
  rw [Try.params3] at hA hval hsz
  obtain ⟨v0, v1, v2, d0, d1, d2, p0, p1, p2, rfl, rfl, rfl, h0, h1, h2⟩ := trodAll_three hA
  obtain ⟨rfl, rfl⟩ := trodVars_none hV
  obtain ⟨c0, c1, c2, y0, y1, y2, m, rfl, rfl, rfl, hy0, hy1, hy2⟩ := open_agg3 Try.underlying24 (by kernel_rfl) (by kernel_rfl) (hval 0 24 v0 rfl rfl) h0
  obtain ⟨a, e0, rfl, wa⟩ := DataW.trod_int Try.underlying22 hy0
  obtain ⟨b, e1, rfl, wb⟩ := DataW.trod_int Try.underlying22 hy1
  obtain ⟨bd, e2, rfl⟩ := DataW.trod_bool Try.underlying4 hy2
  simp at e0 e1 e2
  subst e0 e1 e2
  obtain ⟨A, n, cp, zs, rfl, hnc, hcm, hzl, hsl, hwf, hnil, hsome⟩ := came_ints Try.underlying25 Try.underlying22 Try.cells22 (hval 1 25 v1 rfl rfl) h1
  obtain ⟨c, rfl, rfl, rfl, wc⟩ := open_int Try.underlying5 (hval 2 5 v2 rfl rfl) h2
  have hn : n ≤ 140737488351232 := by
    by_cases hAn : A = none
    · obtain ⟨h, _⟩ := hnil hAn; omega
    · obtain rfl := hsome hAn
      have := List.all_eq_true.1 hsz _ (DataW.weights_mem_each (j := 1) (t := 25) rfl rfl (((lits (H := H) .u32 (zs.take n)).length + (lits (H := H) .u32 (zs.drop n)).length) * Try.prog.bytesOf 22)
        (by simp [DataW.weights, Try.underlying25]))
      rw [Try.bytes22] at this
      simp only [lits, List.length_map, List.length_take, List.length_drop, reachBytes, decide_eq_true_eq] at this
      omega
  have bd0 : ∀ x : Int, (Lit.int .u32 x).wf = true → 0 ≤ x ∧ x ≤ 4294967295 := fun x h => by simpa [Lit.wf, IntKind.min, IntKind.max, IntKind.signed, IntKind.bits] using h
  have hc : 0 ≤ c ∧ c ≤ 255 := by simpa [Lit.wf, IntKind.min, IntKind.max, IntKind.signed, IntKind.bits] using wc
  refine (memGrows_any a b bd A n cp (fun i => zs.getD i 0) c W (bd0 a wa) (bd0 b wb) hc (hsl.take hnc) hn (fun i hi => bd0 _ (hwf _ (by
    have hi' : i < zs.length := by omega
    simp [List.getD, hi'])))).mono fun e W' ⟨he, hk⟩ => ?_
  subst he
  refine ⟨_, rfl, post_law Try.laidOut ?_ hW' rfl Try.underlying4 (by kernel_rfl) rfl hk.below0⟩
  rw [Try.params3]
  intro t ht
  simp at ht
  rcases ht with rfl | rfl | rfl <;> exact ⟨by kernel_rfl, of_decide_eq_true (by kernel_rfl)⟩

theorem memGrows_holds : Rows.MemGrowsSaid :=
  OpenClaim.holds_of_wide 3 Try.f3 rfl rfl rfl rfl rfl rfl rfl ⟨rfl, rfl, rfl, rfl, rfl⟩ rfl rfl rfl rfl rfl (by kernel_rfl) Try.func3 (by kernel_rfl)
    (of_decide_eq_true (by kernel_rfl)) (by unfold Func.isWrapper; rw [if_neg (of_decide_eq_false (by kernel_rfl))]; exact ⟨rfl, rfl⟩)
    (fun os started H enc _ => memGrows_lifted os started H enc)

#print axioms memGrows_holds
end Go.Proofs.Ytjkndigmoclnoaa
