/- Whatever the input, StoreNil returns true and its arguments read as they did. No condition. -/
import Derived.Test.YtlnkdnmeikpckaaLStN
import Derived.Test.YtlnkdnmeikpckaaDecSt
namespace Go.Proofs.Ytlnkdnmeikpckaa
open Go.ChangeShapes Go.WideShapes Go.ChangeAt Go.RowKit Go.Joins

set_option maxRecDepth 100000 in
set_option maxHeartbeats 1600000 in
theorem storeNil_lifted (os : Os) (started : os.Started) (H : Type) (enc : TypeId × Value → H) :
    ReturnsInHanded {} Try.checked os 5 .any (Rows.storeNilSpec.pre6 enc Try.prog Try.f5 Rows.storeNilRow.domain false) (Rows.storeNilSpec.post enc Try.prog Try.f5 false true false false) := by
  refine returnsInHanded_of_change_sized (C := Try.checked) Try.own started (by kernel_rfl) Try.func5
    (ChangeSpec.witness6 (enc := enc) (C := Try.checked) false ⟨#[], #[.agg #[.int .i64 0, .int .i64 0, .int .u32 0, .slice none 0 0, .slice none 0 0, .bool false, .string ⟨#[]⟩, .int .i64 0, .int .i64 0, .int .u8 0, .int .u32 0, .int .u32 0, .bool false, .int .u32 0, .int .u32 0, .bool false, .int .u8 0, .bool false, .int .u8 0, .int .u64 0, .int .u64 0, .slice none 0 0, .slice none 0 0, .slice none 0 0, .slice none 0 0, .slice none 0 0, .slice none 0 0, .slice none 0 0, .slice none 0 0, .slice none 0 0, .slice none 0 0, .slice none 0 0], .bool false], []⟩ 8 (by kernel_rfl) (by kernel_rfl) (by kernel_rfl) (by kernel_rfl)) ?_
  intro W base args ds gs before hval0 hW hcnd hsz0 _
  have hsz : (DataW.weightsEach Try.prog (Try.f5.params.toList ++ Rows.storeNilSpec.plain.varTypes Try.prog) (ds ++ gs)).all (· ≤ reachBytes) = true := hsz0
  clear hsz0
  have hval : ∀ (j : Nat) t v, Try.f5.params[j]? = some t → args[j]? = some v → Value.okWide Try.prog W .any base t v := hval0
  have hW' := hW
  obtain ⟨p, q, hA0, hV, rfl, hfz, hnd⟩ := hW
  have hA : DataW.TrodAll enc Try.prog W 0 (fun _ => true) true Try.f5.params.toList args.toList ds p := hA0
  rw [Try.params5] at hA hval hsz
  have hrd := fun j t v => rd_params (ts2 := Rows.storeNilSpec.plain.varTypes Try.prog) (gs := gs) hA j t v
  have hws : ∀ q ∈ DataW.weightsEach Try.prog (_ ++ Rows.storeNilSpec.plain.varTypes Try.prog) (ds ++ gs), q ≤ reachBytes := fun q hq => of_decide_eq_true (List.all_eq_true.1 hsz q hq)
  obtain ⟨v0, vs0, d0, ds0, p0, q0, hargs0, rfl, rfl, h0, r0⟩ := trodAll_cons hA
  obtain ⟨v1, vs1, d1, ds1, p1, q1, hargs1, rfl, rfl, h1, r1⟩ := trodAll_cons r0
  obtain ⟨hargsN, rfl, rfl⟩ := trodAll_nil r1
  obtain rfl : args = #[v0, v1] := by
    apply Array.toList_inj.1
    rw [hargs0, hargs1, hargsN]
  obtain ⟨rfl, rfl⟩ := trodVars_none hV
  have g0 := hrd 0 72 v0 rfl rfl
  obtain ⟨cs0, hcs0, _⟩ := okWide_struct Try.underlying72 (hval 0 72 v0 rfl rfl)
  obtain ⟨a_d, a_a, a_n, a_f_t_p_A, a_f_t_p_n, a_f_t_p_c, a_f_t_r_A, a_f_t_r_n, a_f_t_r_c, a_f_h, a_f_s, a_f_i, a_f_b, a_t_el, a_t_l_mn, a_t_l_mx, a_t_l_bd, a_l_mn, a_l_mx, a_l_bd, a_g_v, a_g_m, a_v_t, a_v_lo, a_v_hi, a_L_A, a_L_n, a_L_c, a_B_A, a_B_n, a_B_c, a_i_ty_A, a_i_ty_n, a_i_ty_c, a_i_x0_A, a_i_x0_n, a_i_x0_c, a_i_x1_A, a_i_x1_n, a_i_x1_c, a_i_x2_A, a_i_x2_n, a_i_x2_c, a_i_x3_A, a_i_x3_n, a_i_x3_c, a_i_x4_A, a_i_x4_n, a_i_x4_c, a_i_x5_A, a_i_x5_n, a_i_x5_c, a_i_co_A, a_i_co_n, a_i_co_c, a_i_ex_A, a_i_ex_n, a_i_ex_c, e0, b0_0, b0_1, b0_2, b0_3, b0_4, b0_6, b0_7, b0_8, b0_9, b0_10, b0_11, b0_13, b0_14, b0_16, b0_18, b0_19, b0_20, b0_21, b0_22, b0_23, b0_24, b0_25, b0_26, b0_27, b0_28, b0_29, b0_30, b0_31⟩ := dec_ACT g0
  obtain rfl := rd_agg Try.underlying72 hcs0 e0
  have g1 := hrd 1 4 v1 rfl rfl
  obtain ⟨z, rfl, rfl, rfl⟩ := open_bool Try.underlying4 (hval 1 4 v1 rfl rfl) h1
  refine (nil_any a_d a_a a_n a_f_t_p_A a_f_t_p_n a_f_t_p_c a_f_t_r_A a_f_t_r_n a_f_t_r_c a_f_h a_f_s a_f_i a_f_b a_t_el a_t_l_mn a_t_l_mx a_t_l_bd a_l_mn a_l_mx a_l_bd a_g_v a_g_m a_v_t a_v_lo a_v_hi a_L_A a_L_n a_L_c a_B_A a_B_n a_B_c a_i_ty_A a_i_ty_n a_i_ty_c a_i_x0_A a_i_x0_n a_i_x0_c a_i_x1_A a_i_x1_n a_i_x1_c a_i_x2_A a_i_x2_n a_i_x2_c a_i_x3_A a_i_x3_n a_i_x3_c a_i_x4_A a_i_x4_n a_i_x4_c a_i_x5_A a_i_x5_n a_i_x5_c a_i_co_A a_i_co_n a_i_co_c a_i_ex_A a_i_ex_n a_i_ex_c z W).mono fun e W' ⟨he, hk⟩ => ?_
  subst he
  refine ⟨_, rfl, post_law Try.laidOut ?_ hW' rfl Try.underlying4 (by kernel_rfl) rfl hk.below0⟩
  rw [Try.params5]
  intro t ht
  simp at ht
  rcases ht with rfl | rfl <;> exact ⟨by kernel_rfl, of_decide_eq_true (by kernel_rfl)⟩

theorem storeNil_holds : Rows.StoreNilSaid :=
  OpenClaim.holds_of_wide 5 Try.f5 rfl rfl rfl rfl rfl rfl rfl ⟨rfl, rfl, rfl, rfl, rfl⟩ rfl rfl rfl rfl rfl (by kernel_rfl) Try.func5 (by kernel_rfl)
    (of_decide_eq_true (by kernel_rfl)) (by unfold Func.isWrapper; rw [if_neg (of_decide_eq_false (by kernel_rfl))]; exact ⟨rfl, rfl⟩)
    (fun os started H enc _ => storeNil_lifted os started H enc)

#print axioms storeNil_holds
end Go.Proofs.Ytlnkdnmeikpckaa
