/- How an Act of the statements over stores reads. No condition. -/
import Derived.Test.YtlnkdnmeikpckaaDec
namespace Go.Proofs.Ytlnkdnmeikpckaa
open Go.ChangeShapes Go.WideShapes Go.ChangeAt Go.RowKit Go.Joins

set_option maxHeartbeats 1600000 in
set_option maxRecDepth 100000 in
theorem dec_FT {H : Type} {enc : TypeId × Value → H} {W : World} {ws : List Nat} {cs : List Value} (h : Rd enc W 24 cs ws) : ∃ (p_A : Option Addr) (p_n p_c : Nat) (r_A : Option Addr) (r_n r_c : Nat), cs = [.slice p_A p_n p_c, .slice r_A r_n r_c] ∧ Rd enc W 22 [.slice p_A p_n p_c] ws ∧ Rd enc W 22 [.slice r_A r_n r_c] ws := by
  obtain ⟨hl, hf⟩ := rd_struct (n := 2) Try.underlying24 (by kernel_rfl) h
  match cs, hl with
  | [k0, k1], _ =>
    have g0 : Rd enc W 22 [k0] ws := by
      have h : Rd enc W 22 (([k0, k1].drop 0).take (Try.prog.cellsOf 22)) ws := hf 0 _ rfl
      rw [show Try.prog.cellsOf 22 = 1 from by kernel_rfl] at h
      exact h
    obtain ⟨p_A, p_n, p_c, e0⟩ := rd_slice_shape Try.underlying22 g0
    rw [e0] at g0
    have g1 : Rd enc W 22 [k1] ws := by
      have h : Rd enc W 22 (([k0, k1].drop 1).take (Try.prog.cellsOf 22)) ws := hf 1 _ rfl
      rw [show Try.prog.cellsOf 22 = 1 from by kernel_rfl] at h
      exact h
    obtain ⟨r_A, r_n, r_c, e1⟩ := rd_slice_shape Try.underlying22 g1
    rw [e1] at g1
    simp only [List.cons.injEq, and_true] at e0 e1
    refine ⟨p_A, p_n, p_c, r_A, r_n, r_c, ?_, g0, g1⟩
    simp [e0, e1]

set_option maxHeartbeats 1600000 in
set_option maxRecDepth 100000 in
theorem dec_FUNC {H : Type} {enc : TypeId × Value → H} {W : World} {ws : List Nat} {cs : List Value} (h : Rd enc W 36 cs ws) : ∃ (t_p_A : Option Addr) (t_p_n t_p_c : Nat) (t_r_A : Option Addr) (t_r_n t_r_c : Nat) (h : Bool) (s : ByteArray) (i : Int) (b : Int), cs = [.slice t_p_A t_p_n t_p_c, .slice t_r_A t_r_n t_r_c, .bool h, .string s, .int .i64 i, .int .i64 b] ∧ Rd enc W 22 [.slice t_p_A t_p_n t_p_c] ws ∧ Rd enc W 22 [.slice t_r_A t_r_n t_r_c] ws ∧ s.size ≤ maxLen ∧ (-9223372036854775808 ≤ i ∧ i ≤ 9223372036854775807) ∧ (-9223372036854775808 ≤ b ∧ b ≤ 9223372036854775807) := by
  obtain ⟨hl, hf⟩ := rd_struct (n := 6) Try.underlying36 (by kernel_rfl) h
  match cs, hl with
  | [k0, k1, k2, k3, k4, k5], _ =>
    have g0 : Rd enc W 24 [k0, k1] ws := by
      have h : Rd enc W 24 (([k0, k1, k2, k3, k4, k5].drop 0).take (Try.prog.cellsOf 24)) ws := hf 0 _ rfl
      rw [show Try.prog.cellsOf 24 = 2 from by kernel_rfl] at h
      exact h
    obtain ⟨t_p_A, t_p_n, t_p_c, t_r_A, t_r_n, t_r_c, e0, p0_0, p0_1⟩ := dec_FT g0
    have g1 : Rd enc W 4 [k2] ws := by
      have h : Rd enc W 4 (([k0, k1, k2, k3, k4, k5].drop 2).take (Try.prog.cellsOf 4)) ws := hf 1 _ rfl
      rw [show Try.prog.cellsOf 4 = 1 from by kernel_rfl] at h
      exact h
    obtain ⟨h, e1⟩ := rd_bool Try.underlying4 g1
    have g2 : Rd enc W 9 [k3] ws := by
      have h : Rd enc W 9 (([k0, k1, k2, k3, k4, k5].drop 3).take (Try.prog.cellsOf 9)) ws := hf 2 _ rfl
      rw [show Try.prog.cellsOf 9 = 1 from by kernel_rfl] at h
      exact h
    obtain ⟨s, e2, p2⟩ := rd_string Try.underlying9 g2
    have g3 : Rd enc W 3 [k4] ws := by
      have h : Rd enc W 3 (([k0, k1, k2, k3, k4, k5].drop 4).take (Try.prog.cellsOf 3)) ws := hf 3 _ rfl
      rw [show Try.prog.cellsOf 3 = 1 from by kernel_rfl] at h
      exact h
    obtain ⟨i, e3, p3⟩ := rd_int Try.underlying3 g3
    have g4 : Rd enc W 3 [k5] ws := by
      have h : Rd enc W 3 (([k0, k1, k2, k3, k4, k5].drop 5).take (Try.prog.cellsOf 3)) ws := hf 4 _ rfl
      rw [show Try.prog.cellsOf 3 = 1 from by kernel_rfl] at h
      exact h
    obtain ⟨b, e4, p4⟩ := rd_int Try.underlying3 g4
    simp only [List.cons.injEq, and_true] at e0 e1 e2 e3 e4
    refine ⟨t_p_A, t_p_n, t_p_c, t_r_A, t_r_n, t_r_c, h, s, i, b, ?_, p0_0, p0_1, p2, bounds_i64 p3, bounds_i64 p4⟩
    simp [e0, e1, e2, e3, e4]

set_option maxHeartbeats 1600000 in
set_option maxRecDepth 100000 in
theorem dec_LIM {H : Type} {enc : TypeId × Value → H} {W : World} {ws : List Nat} {cs : List Value} (h : Rd enc W 57 cs ws) : ∃ (mn : Int) (mx : Int) (bd : Bool), cs = [.int .u32 mn, .int .u32 mx, .bool bd] ∧ (0 ≤ mn ∧ mn ≤ 4294967295) ∧ (0 ≤ mx ∧ mx ≤ 4294967295) := by
  obtain ⟨hl, hf⟩ := rd_struct (n := 3) Try.underlying57 (by kernel_rfl) h
  match cs, hl with
  | [k0, k1, k2], _ =>
    have g0 : Rd enc W 55 [k0] ws := by
      have h : Rd enc W 55 (([k0, k1, k2].drop 0).take (Try.prog.cellsOf 55)) ws := hf 0 _ rfl
      rw [show Try.prog.cellsOf 55 = 1 from by kernel_rfl] at h
      exact h
    obtain ⟨mn, e0, p0⟩ := rd_int Try.underlying55 g0
    have g1 : Rd enc W 55 [k1] ws := by
      have h : Rd enc W 55 (([k0, k1, k2].drop 1).take (Try.prog.cellsOf 55)) ws := hf 1 _ rfl
      rw [show Try.prog.cellsOf 55 = 1 from by kernel_rfl] at h
      exact h
    obtain ⟨mx, e1, p1⟩ := rd_int Try.underlying55 g1
    have g2 : Rd enc W 4 [k2] ws := by
      have h : Rd enc W 4 (([k0, k1, k2].drop 2).take (Try.prog.cellsOf 4)) ws := hf 2 _ rfl
      rw [show Try.prog.cellsOf 4 = 1 from by kernel_rfl] at h
      exact h
    obtain ⟨bd, e2⟩ := rd_bool Try.underlying4 g2
    simp only [List.cons.injEq, and_true] at e0 e1 e2
    refine ⟨mn, mx, bd, ?_, bounds_u32 p0, bounds_u32 p1⟩
    simp [e0, e1, e2]

set_option maxHeartbeats 1600000 in
set_option maxRecDepth 100000 in
theorem dec_TT {H : Type} {enc : TypeId × Value → H} {W : World} {ws : List Nat} {cs : List Value} (h : Rd enc W 59 cs ws) : ∃ (el : Int) (l_mn : Int) (l_mx : Int) (l_bd : Bool), cs = [.int .u8 el, .int .u32 l_mn, .int .u32 l_mx, .bool l_bd] ∧ (0 ≤ el ∧ el ≤ 255) ∧ (0 ≤ l_mn ∧ l_mn ≤ 4294967295) ∧ (0 ≤ l_mx ∧ l_mx ≤ 4294967295) := by
  obtain ⟨hl, hf⟩ := rd_struct (n := 4) Try.underlying59 (by kernel_rfl) h
  match cs, hl with
  | [k0, k1, k2, k3], _ =>
    have g0 : Rd enc W 37 [k0] ws := by
      have h : Rd enc W 37 (([k0, k1, k2, k3].drop 0).take (Try.prog.cellsOf 37)) ws := hf 0 _ rfl
      rw [show Try.prog.cellsOf 37 = 1 from by kernel_rfl] at h
      exact h
    obtain ⟨el, e0, p0⟩ := rd_int Try.underlying37 g0
    have g1 : Rd enc W 57 [k1, k2, k3] ws := by
      have h : Rd enc W 57 (([k0, k1, k2, k3].drop 1).take (Try.prog.cellsOf 57)) ws := hf 1 _ rfl
      rw [show Try.prog.cellsOf 57 = 3 from by kernel_rfl] at h
      exact h
    obtain ⟨l_mn, l_mx, l_bd, e1, p1_0, p1_1⟩ := dec_LIM g1
    simp only [List.cons.injEq, and_true] at e0 e1
    refine ⟨el, l_mn, l_mx, l_bd, ?_, bounds_u8 p0, p1_0, p1_1⟩
    simp [e0, e1]

set_option maxHeartbeats 1600000 in
set_option maxRecDepth 100000 in
theorem dec_GT {H : Type} {enc : TypeId × Value → H} {W : World} {ws : List Nat} {cs : List Value} (h : Rd enc W 64 cs ws) : ∃ (v : Int) (m : Bool), cs = [.int .u8 v, .bool m] ∧ (0 ≤ v ∧ v ≤ 255) := by
  obtain ⟨hl, hf⟩ := rd_struct (n := 2) Try.underlying64 (by kernel_rfl) h
  match cs, hl with
  | [k0, k1], _ =>
    have g0 : Rd enc W 37 [k0] ws := by
      have h : Rd enc W 37 (([k0, k1].drop 0).take (Try.prog.cellsOf 37)) ws := hf 0 _ rfl
      rw [show Try.prog.cellsOf 37 = 1 from by kernel_rfl] at h
      exact h
    obtain ⟨v, e0, p0⟩ := rd_int Try.underlying37 g0
    have g1 : Rd enc W 4 [k1] ws := by
      have h : Rd enc W 4 (([k0, k1].drop 1).take (Try.prog.cellsOf 4)) ws := hf 1 _ rfl
      rw [show Try.prog.cellsOf 4 = 1 from by kernel_rfl] at h
      exact h
    obtain ⟨m, e1⟩ := rd_bool Try.underlying4 g1
    simp only [List.cons.injEq, and_true] at e0 e1
    refine ⟨v, m, ?_, bounds_u8 p0⟩
    simp [e0, e1]

set_option maxHeartbeats 1600000 in
set_option maxRecDepth 100000 in
theorem dec_VAL {H : Type} {enc : TypeId × Value → H} {W : World} {ws : List Nat} {cs : List Value} (h : Rd enc W 40 cs ws) : ∃ (t : Int) (lo : Int) (hi : Int), cs = [.int .u8 t, .int .u64 lo, .int .u64 hi] ∧ (0 ≤ t ∧ t ≤ 255) ∧ (0 ≤ lo ∧ lo ≤ 18446744073709551615) ∧ (0 ≤ hi ∧ hi ≤ 18446744073709551615) := by
  obtain ⟨hl, hf⟩ := rd_struct (n := 3) Try.underlying40 (by kernel_rfl) h
  match cs, hl with
  | [k0, k1, k2], _ =>
    have g0 : Rd enc W 37 [k0] ws := by
      have h : Rd enc W 37 (([k0, k1, k2].drop 0).take (Try.prog.cellsOf 37)) ws := hf 0 _ rfl
      rw [show Try.prog.cellsOf 37 = 1 from by kernel_rfl] at h
      exact h
    obtain ⟨t, e0, p0⟩ := rd_int Try.underlying37 g0
    have g1 : Rd enc W 38 [k1] ws := by
      have h : Rd enc W 38 (([k0, k1, k2].drop 1).take (Try.prog.cellsOf 38)) ws := hf 1 _ rfl
      rw [show Try.prog.cellsOf 38 = 1 from by kernel_rfl] at h
      exact h
    obtain ⟨lo, e1, p1⟩ := rd_int Try.underlying38 g1
    have g2 : Rd enc W 38 [k2] ws := by
      have h : Rd enc W 38 (([k0, k1, k2].drop 2).take (Try.prog.cellsOf 38)) ws := hf 2 _ rfl
      rw [show Try.prog.cellsOf 38 = 1 from by kernel_rfl] at h
      exact h
    obtain ⟨hi, e2, p2⟩ := rd_int Try.underlying38 g2
    simp only [List.cons.injEq, and_true] at e0 e1 e2
    refine ⟨t, lo, hi, ?_, bounds_u8 p0, bounds_u64 p1, bounds_u64 p2⟩
    simp [e0, e1, e2]

set_option maxHeartbeats 1600000 in
set_option maxRecDepth 100000 in
theorem dec_INST {H : Type} {enc : TypeId × Value → H} {W : World} {ws : List Nat} {cs : List Value} (h : Rd enc W 70 cs ws) : ∃ (ty_A : Option Addr) (ty_n ty_c : Nat) (x0_A : Option Addr) (x0_n x0_c : Nat) (x1_A : Option Addr) (x1_n x1_c : Nat) (x2_A : Option Addr) (x2_n x2_c : Nat) (x3_A : Option Addr) (x3_n x3_c : Nat) (x4_A : Option Addr) (x4_n x4_c : Nat) (x5_A : Option Addr) (x5_n x5_c : Nat) (co_A : Option Addr) (co_n co_c : Nat) (ex_A : Option Addr) (ex_n ex_c : Nat), cs = [.slice ty_A ty_n ty_c, .slice x0_A x0_n x0_c, .slice x1_A x1_n x1_c, .slice x2_A x2_n x2_c, .slice x3_A x3_n x3_c, .slice x4_A x4_n x4_c, .slice x5_A x5_n x5_c, .slice co_A co_n co_c, .slice ex_A ex_n ex_c] ∧ Rd enc W 65 [.slice ty_A ty_n ty_c] ws ∧ Rd enc W 66 [.slice x0_A x0_n x0_c] ws ∧ Rd enc W 66 [.slice x1_A x1_n x1_c] ws ∧ Rd enc W 66 [.slice x2_A x2_n x2_c] ws ∧ Rd enc W 66 [.slice x3_A x3_n x3_c] ws ∧ Rd enc W 66 [.slice x4_A x4_n x4_c] ws ∧ Rd enc W 66 [.slice x5_A x5_n x5_c] ws ∧ Rd enc W 67 [.slice co_A co_n co_c] ws ∧ Rd enc W 68 [.slice ex_A ex_n ex_c] ws := by
  obtain ⟨hl, hf⟩ := rd_struct (n := 9) Try.underlying70 (by kernel_rfl) h
  match cs, hl with
  | [k0, k1, k2, k3, k4, k5, k6, k7, k8], _ =>
    have g0 : Rd enc W 65 [k0] ws := by
      have h : Rd enc W 65 (([k0, k1, k2, k3, k4, k5, k6, k7, k8].drop 0).take (Try.prog.cellsOf 65)) ws := hf 0 _ rfl
      rw [show Try.prog.cellsOf 65 = 1 from by kernel_rfl] at h
      exact h
    obtain ⟨ty_A, ty_n, ty_c, e0⟩ := rd_slice_shape Try.underlying65 g0
    rw [e0] at g0
    have g1 : Rd enc W 66 [k1] ws := by
      have h : Rd enc W 66 (([k0, k1, k2, k3, k4, k5, k6, k7, k8].drop 1).take (Try.prog.cellsOf 66)) ws := hf 1 _ rfl
      rw [show Try.prog.cellsOf 66 = 1 from by kernel_rfl] at h
      exact h
    obtain ⟨x0_A, x0_n, x0_c, e1⟩ := rd_slice_shape Try.underlying66 g1
    rw [e1] at g1
    have g2 : Rd enc W 66 [k2] ws := by
      have h : Rd enc W 66 (([k0, k1, k2, k3, k4, k5, k6, k7, k8].drop 2).take (Try.prog.cellsOf 66)) ws := hf 2 _ rfl
      rw [show Try.prog.cellsOf 66 = 1 from by kernel_rfl] at h
      exact h
    obtain ⟨x1_A, x1_n, x1_c, e2⟩ := rd_slice_shape Try.underlying66 g2
    rw [e2] at g2
    have g3 : Rd enc W 66 [k3] ws := by
      have h : Rd enc W 66 (([k0, k1, k2, k3, k4, k5, k6, k7, k8].drop 3).take (Try.prog.cellsOf 66)) ws := hf 3 _ rfl
      rw [show Try.prog.cellsOf 66 = 1 from by kernel_rfl] at h
      exact h
    obtain ⟨x2_A, x2_n, x2_c, e3⟩ := rd_slice_shape Try.underlying66 g3
    rw [e3] at g3
    have g4 : Rd enc W 66 [k4] ws := by
      have h : Rd enc W 66 (([k0, k1, k2, k3, k4, k5, k6, k7, k8].drop 4).take (Try.prog.cellsOf 66)) ws := hf 4 _ rfl
      rw [show Try.prog.cellsOf 66 = 1 from by kernel_rfl] at h
      exact h
    obtain ⟨x3_A, x3_n, x3_c, e4⟩ := rd_slice_shape Try.underlying66 g4
    rw [e4] at g4
    have g5 : Rd enc W 66 [k5] ws := by
      have h : Rd enc W 66 (([k0, k1, k2, k3, k4, k5, k6, k7, k8].drop 5).take (Try.prog.cellsOf 66)) ws := hf 5 _ rfl
      rw [show Try.prog.cellsOf 66 = 1 from by kernel_rfl] at h
      exact h
    obtain ⟨x4_A, x4_n, x4_c, e5⟩ := rd_slice_shape Try.underlying66 g5
    rw [e5] at g5
    have g6 : Rd enc W 66 [k6] ws := by
      have h : Rd enc W 66 (([k0, k1, k2, k3, k4, k5, k6, k7, k8].drop 6).take (Try.prog.cellsOf 66)) ws := hf 6 _ rfl
      rw [show Try.prog.cellsOf 66 = 1 from by kernel_rfl] at h
      exact h
    obtain ⟨x5_A, x5_n, x5_c, e6⟩ := rd_slice_shape Try.underlying66 g6
    rw [e6] at g6
    have g7 : Rd enc W 67 [k7] ws := by
      have h : Rd enc W 67 (([k0, k1, k2, k3, k4, k5, k6, k7, k8].drop 7).take (Try.prog.cellsOf 67)) ws := hf 7 _ rfl
      rw [show Try.prog.cellsOf 67 = 1 from by kernel_rfl] at h
      exact h
    obtain ⟨co_A, co_n, co_c, e7⟩ := rd_slice_shape Try.underlying67 g7
    rw [e7] at g7
    have g8 : Rd enc W 68 [k8] ws := by
      have h : Rd enc W 68 (([k0, k1, k2, k3, k4, k5, k6, k7, k8].drop 8).take (Try.prog.cellsOf 68)) ws := hf 8 _ rfl
      rw [show Try.prog.cellsOf 68 = 1 from by kernel_rfl] at h
      exact h
    obtain ⟨ex_A, ex_n, ex_c, e8⟩ := rd_slice_shape Try.underlying68 g8
    rw [e8] at g8
    simp only [List.cons.injEq, and_true] at e0 e1 e2 e3 e4 e5 e6 e7 e8
    refine ⟨ty_A, ty_n, ty_c, x0_A, x0_n, x0_c, x1_A, x1_n, x1_c, x2_A, x2_n, x2_c, x3_A, x3_n, x3_c, x4_A, x4_n, x4_c, x5_A, x5_n, x5_c, co_A, co_n, co_c, ex_A, ex_n, ex_c, ?_, g0, g1, g2, g3, g4, g5, g6, g7, g8⟩
    simp [e0, e1, e2, e3, e4, e5, e6, e7, e8]

set_option maxHeartbeats 1600000 in
set_option maxRecDepth 100000 in
theorem dec_ACT {H : Type} {enc : TypeId × Value → H} {W : World} {ws : List Nat} {cs : List Value} (h : Rd enc W 72 cs ws) : ∃ (d : Int) (a : Int) (n : Int) (f_t_p_A : Option Addr) (f_t_p_n f_t_p_c : Nat) (f_t_r_A : Option Addr) (f_t_r_n f_t_r_c : Nat) (f_h : Bool) (f_s : ByteArray) (f_i : Int) (f_b : Int) (t_el : Int) (t_l_mn : Int) (t_l_mx : Int) (t_l_bd : Bool) (l_mn : Int) (l_mx : Int) (l_bd : Bool) (g_v : Int) (g_m : Bool) (v_t : Int) (v_lo : Int) (v_hi : Int) (L_A : Option Addr) (L_n L_c : Nat) (B_A : Option Addr) (B_n B_c : Nat) (i_ty_A : Option Addr) (i_ty_n i_ty_c : Nat) (i_x0_A : Option Addr) (i_x0_n i_x0_c : Nat) (i_x1_A : Option Addr) (i_x1_n i_x1_c : Nat) (i_x2_A : Option Addr) (i_x2_n i_x2_c : Nat) (i_x3_A : Option Addr) (i_x3_n i_x3_c : Nat) (i_x4_A : Option Addr) (i_x4_n i_x4_c : Nat) (i_x5_A : Option Addr) (i_x5_n i_x5_c : Nat) (i_co_A : Option Addr) (i_co_n i_co_c : Nat) (i_ex_A : Option Addr) (i_ex_n i_ex_c : Nat), cs = [.int .i64 d, .int .i64 a, .int .u32 n, .slice f_t_p_A f_t_p_n f_t_p_c, .slice f_t_r_A f_t_r_n f_t_r_c, .bool f_h, .string f_s, .int .i64 f_i, .int .i64 f_b, .int .u8 t_el, .int .u32 t_l_mn, .int .u32 t_l_mx, .bool t_l_bd, .int .u32 l_mn, .int .u32 l_mx, .bool l_bd, .int .u8 g_v, .bool g_m, .int .u8 v_t, .int .u64 v_lo, .int .u64 v_hi, .slice L_A L_n L_c, .slice B_A B_n B_c, .slice i_ty_A i_ty_n i_ty_c, .slice i_x0_A i_x0_n i_x0_c, .slice i_x1_A i_x1_n i_x1_c, .slice i_x2_A i_x2_n i_x2_c, .slice i_x3_A i_x3_n i_x3_c, .slice i_x4_A i_x4_n i_x4_c, .slice i_x5_A i_x5_n i_x5_c, .slice i_co_A i_co_n i_co_c, .slice i_ex_A i_ex_n i_ex_c] ∧ (-9223372036854775808 ≤ d ∧ d ≤ 9223372036854775807) ∧ (-9223372036854775808 ≤ a ∧ a ≤ 9223372036854775807) ∧ (0 ≤ n ∧ n ≤ 4294967295) ∧ Rd enc W 22 [.slice f_t_p_A f_t_p_n f_t_p_c] ws ∧ Rd enc W 22 [.slice f_t_r_A f_t_r_n f_t_r_c] ws ∧ f_s.size ≤ maxLen ∧ (-9223372036854775808 ≤ f_i ∧ f_i ≤ 9223372036854775807) ∧ (-9223372036854775808 ≤ f_b ∧ f_b ≤ 9223372036854775807) ∧ (0 ≤ t_el ∧ t_el ≤ 255) ∧ (0 ≤ t_l_mn ∧ t_l_mn ≤ 4294967295) ∧ (0 ≤ t_l_mx ∧ t_l_mx ≤ 4294967295) ∧ (0 ≤ l_mn ∧ l_mn ≤ 4294967295) ∧ (0 ≤ l_mx ∧ l_mx ≤ 4294967295) ∧ (0 ≤ g_v ∧ g_v ≤ 255) ∧ (0 ≤ v_t ∧ v_t ≤ 255) ∧ (0 ≤ v_lo ∧ v_lo ≤ 18446744073709551615) ∧ (0 ≤ v_hi ∧ v_hi ≤ 18446744073709551615) ∧ Rd enc W 25 [.slice L_A L_n L_c] ws ∧ Rd enc W 26 [.slice B_A B_n B_c] ws ∧ Rd enc W 65 [.slice i_ty_A i_ty_n i_ty_c] ws ∧ Rd enc W 66 [.slice i_x0_A i_x0_n i_x0_c] ws ∧ Rd enc W 66 [.slice i_x1_A i_x1_n i_x1_c] ws ∧ Rd enc W 66 [.slice i_x2_A i_x2_n i_x2_c] ws ∧ Rd enc W 66 [.slice i_x3_A i_x3_n i_x3_c] ws ∧ Rd enc W 66 [.slice i_x4_A i_x4_n i_x4_c] ws ∧ Rd enc W 66 [.slice i_x5_A i_x5_n i_x5_c] ws ∧ Rd enc W 67 [.slice i_co_A i_co_n i_co_c] ws ∧ Rd enc W 68 [.slice i_ex_A i_ex_n i_ex_c] ws := by
  obtain ⟨hl, hf⟩ := rd_struct (n := 32) Try.underlying72 (by kernel_rfl) h
  match cs, hl with
  | [k0, k1, k2, k3, k4, k5, k6, k7, k8, k9, k10, k11, k12, k13, k14, k15, k16, k17, k18, k19, k20, k21, k22, k23, k24, k25, k26, k27, k28, k29, k30, k31], _ =>
    have g0 : Rd enc W 3 [k0] ws := by
      have h : Rd enc W 3 (([k0, k1, k2, k3, k4, k5, k6, k7, k8, k9, k10, k11, k12, k13, k14, k15, k16, k17, k18, k19, k20, k21, k22, k23, k24, k25, k26, k27, k28, k29, k30, k31].drop 0).take (Try.prog.cellsOf 3)) ws := hf 0 _ rfl
      rw [show Try.prog.cellsOf 3 = 1 from by kernel_rfl] at h
      exact h
    obtain ⟨d, e0, p0⟩ := rd_int Try.underlying3 g0
    have g1 : Rd enc W 3 [k1] ws := by
      have h : Rd enc W 3 (([k0, k1, k2, k3, k4, k5, k6, k7, k8, k9, k10, k11, k12, k13, k14, k15, k16, k17, k18, k19, k20, k21, k22, k23, k24, k25, k26, k27, k28, k29, k30, k31].drop 1).take (Try.prog.cellsOf 3)) ws := hf 1 _ rfl
      rw [show Try.prog.cellsOf 3 = 1 from by kernel_rfl] at h
      exact h
    obtain ⟨a, e1, p1⟩ := rd_int Try.underlying3 g1
    have g2 : Rd enc W 55 [k2] ws := by
      have h : Rd enc W 55 (([k0, k1, k2, k3, k4, k5, k6, k7, k8, k9, k10, k11, k12, k13, k14, k15, k16, k17, k18, k19, k20, k21, k22, k23, k24, k25, k26, k27, k28, k29, k30, k31].drop 2).take (Try.prog.cellsOf 55)) ws := hf 2 _ rfl
      rw [show Try.prog.cellsOf 55 = 1 from by kernel_rfl] at h
      exact h
    obtain ⟨n, e2, p2⟩ := rd_int Try.underlying55 g2
    have g3 : Rd enc W 36 [k3, k4, k5, k6, k7, k8] ws := by
      have h : Rd enc W 36 (([k0, k1, k2, k3, k4, k5, k6, k7, k8, k9, k10, k11, k12, k13, k14, k15, k16, k17, k18, k19, k20, k21, k22, k23, k24, k25, k26, k27, k28, k29, k30, k31].drop 3).take (Try.prog.cellsOf 36)) ws := hf 3 _ rfl
      rw [show Try.prog.cellsOf 36 = 6 from by kernel_rfl] at h
      exact h
    obtain ⟨f_t_p_A, f_t_p_n, f_t_p_c, f_t_r_A, f_t_r_n, f_t_r_c, f_h, f_s, f_i, f_b, e3, p3_0, p3_1, p3_3, p3_4, p3_5⟩ := dec_FUNC g3
    have g4 : Rd enc W 59 [k9, k10, k11, k12] ws := by
      have h : Rd enc W 59 (([k0, k1, k2, k3, k4, k5, k6, k7, k8, k9, k10, k11, k12, k13, k14, k15, k16, k17, k18, k19, k20, k21, k22, k23, k24, k25, k26, k27, k28, k29, k30, k31].drop 9).take (Try.prog.cellsOf 59)) ws := hf 4 _ rfl
      rw [show Try.prog.cellsOf 59 = 4 from by kernel_rfl] at h
      exact h
    obtain ⟨t_el, t_l_mn, t_l_mx, t_l_bd, e4, p4_0, p4_1, p4_2⟩ := dec_TT g4
    have g5 : Rd enc W 57 [k13, k14, k15] ws := by
      have h : Rd enc W 57 (([k0, k1, k2, k3, k4, k5, k6, k7, k8, k9, k10, k11, k12, k13, k14, k15, k16, k17, k18, k19, k20, k21, k22, k23, k24, k25, k26, k27, k28, k29, k30, k31].drop 13).take (Try.prog.cellsOf 57)) ws := hf 5 _ rfl
      rw [show Try.prog.cellsOf 57 = 3 from by kernel_rfl] at h
      exact h
    obtain ⟨l_mn, l_mx, l_bd, e5, p5_0, p5_1⟩ := dec_LIM g5
    have g6 : Rd enc W 64 [k16, k17] ws := by
      have h : Rd enc W 64 (([k0, k1, k2, k3, k4, k5, k6, k7, k8, k9, k10, k11, k12, k13, k14, k15, k16, k17, k18, k19, k20, k21, k22, k23, k24, k25, k26, k27, k28, k29, k30, k31].drop 16).take (Try.prog.cellsOf 64)) ws := hf 6 _ rfl
      rw [show Try.prog.cellsOf 64 = 2 from by kernel_rfl] at h
      exact h
    obtain ⟨g_v, g_m, e6, p6_0⟩ := dec_GT g6
    have g7 : Rd enc W 40 [k18, k19, k20] ws := by
      have h : Rd enc W 40 (([k0, k1, k2, k3, k4, k5, k6, k7, k8, k9, k10, k11, k12, k13, k14, k15, k16, k17, k18, k19, k20, k21, k22, k23, k24, k25, k26, k27, k28, k29, k30, k31].drop 18).take (Try.prog.cellsOf 40)) ws := hf 7 _ rfl
      rw [show Try.prog.cellsOf 40 = 3 from by kernel_rfl] at h
      exact h
    obtain ⟨v_t, v_lo, v_hi, e7, p7_0, p7_1, p7_2⟩ := dec_VAL g7
    have g8 : Rd enc W 25 [k21] ws := by
      have h : Rd enc W 25 (([k0, k1, k2, k3, k4, k5, k6, k7, k8, k9, k10, k11, k12, k13, k14, k15, k16, k17, k18, k19, k20, k21, k22, k23, k24, k25, k26, k27, k28, k29, k30, k31].drop 21).take (Try.prog.cellsOf 25)) ws := hf 8 _ rfl
      rw [show Try.prog.cellsOf 25 = 1 from by kernel_rfl] at h
      exact h
    obtain ⟨L_A, L_n, L_c, e8⟩ := rd_slice_shape Try.underlying25 g8
    rw [e8] at g8
    have g9 : Rd enc W 26 [k22] ws := by
      have h : Rd enc W 26 (([k0, k1, k2, k3, k4, k5, k6, k7, k8, k9, k10, k11, k12, k13, k14, k15, k16, k17, k18, k19, k20, k21, k22, k23, k24, k25, k26, k27, k28, k29, k30, k31].drop 22).take (Try.prog.cellsOf 26)) ws := hf 9 _ rfl
      rw [show Try.prog.cellsOf 26 = 1 from by kernel_rfl] at h
      exact h
    obtain ⟨B_A, B_n, B_c, e9⟩ := rd_slice_shape Try.underlying26 g9
    rw [e9] at g9
    have g10 : Rd enc W 70 [k23, k24, k25, k26, k27, k28, k29, k30, k31] ws := by
      have h : Rd enc W 70 (([k0, k1, k2, k3, k4, k5, k6, k7, k8, k9, k10, k11, k12, k13, k14, k15, k16, k17, k18, k19, k20, k21, k22, k23, k24, k25, k26, k27, k28, k29, k30, k31].drop 23).take (Try.prog.cellsOf 70)) ws := hf 10 _ rfl
      rw [show Try.prog.cellsOf 70 = 9 from by kernel_rfl] at h
      exact h
    obtain ⟨i_ty_A, i_ty_n, i_ty_c, i_x0_A, i_x0_n, i_x0_c, i_x1_A, i_x1_n, i_x1_c, i_x2_A, i_x2_n, i_x2_c, i_x3_A, i_x3_n, i_x3_c, i_x4_A, i_x4_n, i_x4_c, i_x5_A, i_x5_n, i_x5_c, i_co_A, i_co_n, i_co_c, i_ex_A, i_ex_n, i_ex_c, e10, p10_0, p10_1, p10_2, p10_3, p10_4, p10_5, p10_6, p10_7, p10_8⟩ := dec_INST g10
    simp only [List.cons.injEq, and_true] at e0 e1 e2 e3 e4 e5 e6 e7 e8 e9 e10
    refine ⟨d, a, n, f_t_p_A, f_t_p_n, f_t_p_c, f_t_r_A, f_t_r_n, f_t_r_c, f_h, f_s, f_i, f_b, t_el, t_l_mn, t_l_mx, t_l_bd, l_mn, l_mx, l_bd, g_v, g_m, v_t, v_lo, v_hi, L_A, L_n, L_c, B_A, B_n, B_c, i_ty_A, i_ty_n, i_ty_c, i_x0_A, i_x0_n, i_x0_c, i_x1_A, i_x1_n, i_x1_c, i_x2_A, i_x2_n, i_x2_c, i_x3_A, i_x3_n, i_x3_c, i_x4_A, i_x4_n, i_x4_c, i_x5_A, i_x5_n, i_x5_c, i_co_A, i_co_n, i_co_c, i_ex_A, i_ex_n, i_ex_c, ?_, bounds_i64 p0, bounds_i64 p1, bounds_u32 p2, p3_0, p3_1, p3_3, p3_4, p3_5, p4_0, p4_1, p4_2, p5_0, p5_1, p6_0, p7_0, p7_1, p7_2, g8, g9, p10_0, p10_1, p10_2, p10_3, p10_4, p10_5, p10_6, p10_7, p10_8⟩
    simp [e0, e1, e2, e3, e4, e5, e6, e7, e8, e9, e10]

end Go.Proofs.Ytlnkdnmeikpckaa
