/- Whatever the input, TabPlays returns true and its arguments read as they did. No condition. -/
import Derived.Test.YtpeekldngelkkaaLTabP
import Derived.Test.YtpeekldngelkkaaDecTT
namespace Go.Proofs.Ytpeekldngelkkaa
open Go.ChangeShapes Go.WideShapes Go.ChangeAt Go.RowKit Go.Joins

set_option maxRecDepth 100000 in
set_option maxHeartbeats 1600000 in
theorem tabPlays_lifted (os : Os) (started : os.Started) (H : Type) (enc : TypeId × Value → H) :
    ReturnsInHanded {} Try.checked os 7 .any (Rows.tabPlaysSpec.pre6 enc Try.prog Try.f7 Rows.tabPlaysRow.domain false) (Rows.tabPlaysSpec.post enc Try.prog Try.f7 false true false false) := by
  refine returnsInHanded_of_change_sized (C := Try.checked) Try.own started (by kernel_rfl) Try.func7
    (ChangeSpec.witness6 (enc := enc) (C := Try.checked) false ⟨#[], #[.agg #[.int .u8 0, .int .u32 0, .int .u32 0, .bool false], .agg #[.int .u8 0, .int .u32 0, .int .u32 0, .bool false], .agg #[.int .u8 0, .int .u64 0, .int .u64 0], .agg #[.int .u8 0, .int .u64 0, .int .u64 0], .slice none 0 0], []⟩ 8 (by kernel_rfl) (by kernel_rfl) (by kernel_rfl) (by kernel_rfl)) ?_
  intro W base args ds gs before hval0 hW hcnd hsz0 _
  have hsz : (DataW.weightsEach Try.prog (Try.f7.params.toList ++ Rows.tabPlaysSpec.plain.varTypes Try.prog) (ds ++ gs)).all (· ≤ reachBytes) = true := hsz0
  clear hsz0
  have hval : ∀ (j : Nat) t v, Try.f7.params[j]? = some t → args[j]? = some v → Value.okWide Try.prog W .any base t v := hval0
  have hW' := hW
  obtain ⟨p, q, hA0, hV, rfl, hfz, hnd⟩ := hW
  have hA : DataW.TrodAll enc Try.prog W 0 (fun _ => true) true Try.f7.params.toList args.toList ds p := hA0
  rw [Try.params7] at hA hval hsz
  have hrd := fun j t v => rd_params (ts2 := Rows.tabPlaysSpec.plain.varTypes Try.prog) (gs := gs) hA j t v
  have hws : ∀ q ∈ DataW.weightsEach Try.prog (_ ++ Rows.tabPlaysSpec.plain.varTypes Try.prog) (ds ++ gs), q ≤ reachBytes := fun q hq => of_decide_eq_true (List.all_eq_true.1 hsz q hq)
  obtain ⟨v0, vs0, d0, ds0, p0, q0, hargs0, rfl, rfl, h0, r0⟩ := trodAll_cons hA
  obtain ⟨v1, vs1, d1, ds1, p1, q1, hargs1, rfl, rfl, h1, r1⟩ := trodAll_cons r0
  obtain ⟨v2, vs2, d2, ds2, p2, q2, hargs2, rfl, rfl, h2, r2⟩ := trodAll_cons r1
  obtain ⟨v3, vs3, d3, ds3, p3, q3, hargs3, rfl, rfl, h3, r3⟩ := trodAll_cons r2
  obtain ⟨v4, vs4, d4, ds4, p4, q4, hargs4, rfl, rfl, h4, r4⟩ := trodAll_cons r3
  obtain ⟨hargsN, rfl, rfl⟩ := trodAll_nil r4
  obtain rfl : args = #[v0, v1, v2, v3, v4] := by
    apply Array.toList_inj.1
    rw [hargs0, hargs1, hargs2, hargs3, hargs4, hargsN]
  obtain ⟨rfl, rfl⟩ := trodVars_none hV
  have g0 := hrd 0 41 v0 rfl rfl
  obtain ⟨cs0, hcs0, _⟩ := okWide_struct Try.underlying41 (hval 0 41 v0 rfl rfl)
  obtain ⟨a_el, a_l_mn, a_l_mx, a_l_bd, e0, b0_0, b0_1, b0_2⟩ := dec_TT g0
  obtain rfl := rd_agg Try.underlying41 hcs0 e0
  have g1 := hrd 1 41 v1 rfl rfl
  obtain ⟨cs1, hcs1, _⟩ := okWide_struct Try.underlying41 (hval 1 41 v1 rfl rfl)
  obtain ⟨b_el, b_l_mn, b_l_mx, b_l_bd, e1, b1_0, b1_1, b1_2⟩ := dec_TT g1
  obtain rfl := rd_agg Try.underlying41 hcs1 e1
  have g2 := hrd 2 43 v2 rfl rfl
  obtain ⟨cs2, hcs2, _⟩ := okWide_struct Try.underlying43 (hval 2 43 v2 rfl rfl)
  obtain ⟨v_t, v_lo, v_hi, e2, b2_0, b2_1, b2_2⟩ := dec_VAL g2
  obtain rfl := rd_agg Try.underlying43 hcs2 e2
  have g3 := hrd 3 43 v3 rfl rfl
  obtain ⟨cs3, hcs3, _⟩ := okWide_struct Try.underlying43 (hval 3 43 v3 rfl rfl)
  obtain ⟨u_t, u_lo, u_hi, e3, b3_0, b3_1, b3_2⟩ := dec_VAL g3
  obtain rfl := rd_agg Try.underlying43 hcs3 e3
  have g4 := hrd 4 57 v4 rfl rfl
  obtain ⟨l_A, l_n, l_c, hv4⟩ := okWide_slice Try.underlying57 (hval 4 57 v4 rfl rfl)
  subst hv4
  obtain ⟨acts, hacts⟩ := acts_of_rd g4 hws
  obtain ⟨n1, rfl⟩ := Int.eq_ofNat_of_zero_le b0_1.1
  obtain ⟨n2, rfl⟩ := Int.eq_ofNat_of_zero_le b1_1.1
  have c1 := b0_1.2
  have c2 := b1_1.2
  refine (tabPlays_any a_el a_l_mx b_el b_l_mx n1 n2 a_l_bd b_l_bd ⟨v_t, v_lo, v_hi⟩ ⟨u_t, u_lo, u_hi⟩ l_A l_n l_c acts W (by omega) (by omega) b0_2.1 b0_2.2 b1_2.1 b1_2.2 hacts).mono fun e W' ⟨he, hk⟩ => ?_
  subst he
  refine ⟨_, rfl, post_law Try.laidOut ?_ hW' rfl Try.underlying4 (by kernel_rfl) rfl hk.below0⟩
  rw [Try.params7]
  intro t ht
  simp at ht
  rcases ht with rfl | rfl | rfl <;> exact ⟨by kernel_rfl, of_decide_eq_true (by kernel_rfl)⟩

theorem tabPlays_holds : Rows.TabPlaysSaid :=
  OpenClaim.holds_of_wide 7 Try.f7 rfl rfl rfl rfl rfl rfl rfl ⟨rfl, rfl, rfl, rfl, rfl⟩ rfl rfl rfl rfl rfl (by kernel_rfl) Try.func7 (by kernel_rfl)
    (of_decide_eq_true (by kernel_rfl)) (by unfold Func.isWrapper; rw [if_neg (of_decide_eq_false (by kernel_rfl))]; exact ⟨rfl, rfl⟩)
    (fun os started H enc _ => tabPlays_lifted os started H enc)

#print axioms tabPlays_holds
end Go.Proofs.Ytpeekldngelkkaa
