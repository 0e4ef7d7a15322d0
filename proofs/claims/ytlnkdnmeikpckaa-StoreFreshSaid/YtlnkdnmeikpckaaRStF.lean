/- Whatever the input, StoreFresh returns true and its arguments read as they did. No condition. -/
import Derived.Test.YtlnkdnmeikpckaaLStF
import Derived.Test.YtlnkdnmeikpckaaDecL
namespace Go.Proofs.Ytlnkdnmeikpckaa
open Go.ChangeShapes Go.WideShapes Go.ChangeAt Go.RowKit Go.Joins

set_option maxRecDepth 100000 in
set_option maxHeartbeats 1600000 in
theorem storeFresh_lifted (os : Os) (started : os.Started) (H : Type) (enc : TypeId × Value → H) :
    ReturnsInHanded {} Try.checked os 3 .any (Rows.storeFreshSpec.pre6 enc Try.prog Try.f3 Rows.storeFreshRow.domain false) (Rows.storeFreshSpec.post enc Try.prog Try.f3 false true false false) := by
  refine returnsInHanded_of_change_sized (C := Try.checked) Try.own started (by kernel_rfl) Try.func3
    (ChangeSpec.witness6 (enc := enc) (C := Try.checked) false ⟨#[], #[.agg #[.slice none 0 0, .slice none 0 0], .slice none 0 0, .slice none 0 0], []⟩ 8 (by kernel_rfl) (by kernel_rfl) (by kernel_rfl) (by kernel_rfl)) ?_
  intro W base args ds gs before hval0 hW hcnd hsz0 _
  have hsz : (DataW.weightsEach Try.prog (Try.f3.params.toList ++ Rows.storeFreshSpec.plain.varTypes Try.prog) (ds ++ gs)).all (· ≤ reachBytes) = true := hsz0
  clear hsz0
  have hval : ∀ (j : Nat) t v, Try.f3.params[j]? = some t → args[j]? = some v → Value.okWide Try.prog W .any base t v := hval0
  have hW' := hW
  obtain ⟨p, q, hA0, hV, rfl, hfz, hnd⟩ := hW
  have hA : DataW.TrodAll enc Try.prog W 0 (fun _ => true) true Try.f3.params.toList args.toList ds p := hA0
  rw [Try.params3] at hA hval hsz
  have hrd := fun j t v => rd_params (ts2 := Rows.storeFreshSpec.plain.varTypes Try.prog) (gs := gs) hA j t v
  have hws : ∀ q ∈ DataW.weightsEach Try.prog (_ ++ Rows.storeFreshSpec.plain.varTypes Try.prog) (ds ++ gs), q ≤ reachBytes := fun q hq => of_decide_eq_true (List.all_eq_true.1 hsz q hq)
  obtain ⟨v0, vs0, d0, ds0, p0, q0, hargs0, rfl, rfl, h0, r0⟩ := trodAll_cons hA
  obtain ⟨v1, vs1, d1, ds1, p1, q1, hargs1, rfl, rfl, h1, r1⟩ := trodAll_cons r0
  obtain ⟨v2, vs2, d2, ds2, p2, q2, hargs2, rfl, rfl, h2, r2⟩ := trodAll_cons r1
  obtain ⟨hargsN, rfl, rfl⟩ := trodAll_nil r2
  obtain rfl : args = #[v0, v1, v2] := by
    apply Array.toList_inj.1
    rw [hargs0, hargs1, hargs2, hargsN]
  obtain ⟨rfl, rfl⟩ := trodVars_none hV
  have g0 := hrd 0 24 v0 rfl rfl
  obtain ⟨cs0, hcs0, _⟩ := okWide_struct Try.underlying24 (hval 0 24 v0 rfl rfl)
  obtain ⟨f_p_A, f_p_n, f_p_c, f_r_A, f_r_n, f_r_c, e0, b0_0, b0_1⟩ := dec_FT g0
  obtain rfl := rd_agg Try.underlying24 hcs0 e0
  have g1 := hrd 1 25 v1 rfl rfl
  obtain ⟨l_A, l_n, l_c, hv1⟩ := okWide_slice Try.underlying25 (hval 1 25 v1 rfl rfl)
  subst hv1
  have g2 := hrd 2 26 v2 rfl rfl
  obtain ⟨b_A, b_n, b_c, hv2⟩ := okWide_slice Try.underlying26 (hval 2 26 v2 rfl rfl)
  subst hv2
  obtain ⟨pv, hp⟩ := tsl_rd b0_0 hws
  obtain ⟨rv, hr⟩ := tsl_rd b0_1 hws
  obtain ⟨lv, hl⟩ := vsl_rd g1 hws
  obtain ⟨bv, hb⟩ := bsl_rd g2 hws
  refine (fresh_any f_p_A f_r_A l_A b_A f_p_n f_p_c f_r_n f_r_c l_n l_c b_n b_c pv rv lv bv W hp hr hl hb).mono fun e W' ⟨he, hk⟩ => ?_
  subst he
  refine ⟨_, rfl, post_law Try.laidOut ?_ hW' rfl Try.underlying4 (by kernel_rfl) rfl hk.below0⟩
  rw [Try.params3]
  intro t ht
  simp at ht
  rcases ht with rfl | rfl | rfl <;> exact ⟨by kernel_rfl, of_decide_eq_true (by kernel_rfl)⟩

theorem storeFresh_holds : Rows.StoreFreshSaid :=
  OpenClaim.holds_of_wide 3 Try.f3 rfl rfl rfl rfl rfl rfl rfl ⟨rfl, rfl, rfl, rfl, rfl⟩ rfl rfl rfl rfl rfl (by kernel_rfl) Try.func3 (by kernel_rfl)
    (of_decide_eq_true (by kernel_rfl)) (by unfold Func.isWrapper; rw [if_neg (of_decide_eq_false (by kernel_rfl))]; exact ⟨rfl, rfl⟩)
    (fun os started H enc _ => storeFresh_lifted os started H enc)

#print axioms storeFresh_holds
end Go.Proofs.Ytlnkdnmeikpckaa
