/- How a list of Acts of the statements over tables reads. No condition. -/
import Derived.Test.YtpeekldngelkkaaDec
import Derived.Test.YtpeekldngelkkaaTabV
namespace Go.Proofs.Ytpeekldngelkkaa
open Go.ChangeShapes Go.WideShapes Go.ChangeAt Go.RowKit Go.Joins

theorem dec_VAL {H : Type} {enc : TypeId × Value → H} {W : World} {ws : List Nat} {cs : List Value} (h : Rd enc W 43 cs ws) : ∃ (t : Int) (lo : Int) (hi : Int), cs = [.int .u8 t, .int .u64 lo, .int .u64 hi] ∧ (0 ≤ t ∧ t ≤ 255) ∧ (0 ≤ lo ∧ lo ≤ 18446744073709551615) ∧ (0 ≤ hi ∧ hi ≤ 18446744073709551615) := by
  obtain ⟨hl, hf⟩ := rd_struct (n := 3) Try.underlying43 (by kernel_rfl) h
  match cs, hl with
  | [k0, k1, k2], _ =>
    have g0 : Rd enc W 39 [k0] ws := by
      have h : Rd enc W 39 (([k0, k1, k2].drop 0).take (Try.prog.cellsOf 39)) ws := hf 0 _ rfl
      rw [show Try.prog.cellsOf 39 = 1 from by kernel_rfl] at h
      exact h
    obtain ⟨t, e0, p0⟩ := rd_int Try.underlying39 g0
    have g1 : Rd enc W 36 [k1] ws := by
      have h : Rd enc W 36 (([k0, k1, k2].drop 1).take (Try.prog.cellsOf 36)) ws := hf 1 _ rfl
      rw [show Try.prog.cellsOf 36 = 1 from by kernel_rfl] at h
      exact h
    obtain ⟨lo, e1, p1⟩ := rd_int Try.underlying36 g1
    have g2 : Rd enc W 36 [k2] ws := by
      have h : Rd enc W 36 (([k0, k1, k2].drop 2).take (Try.prog.cellsOf 36)) ws := hf 2 _ rfl
      rw [show Try.prog.cellsOf 36 = 1 from by kernel_rfl] at h
      exact h
    obtain ⟨hi, e2, p2⟩ := rd_int Try.underlying36 g2
    simp only [List.cons.injEq, and_true] at e0 e1 e2
    refine ⟨t, lo, hi, ?_, bounds_u8 p0, bounds_u64 p1, bounds_u64 p2⟩
    simp [e0, e1, e2]

theorem dec_ACT {H : Type} {enc : TypeId × Value → H} {W : World} {ws : List Nat} {cs : List Value} (h : Rd enc W 62 cs ws) : ∃ (d : Int) (s : Bool) (o : Bool) (a : Int) (fr : Int) (k : Int) (x_t : Int) (x_lo : Int) (x_hi : Int) (L_A : Option Addr) (L_n L_c : Nat), cs = [.int .i64 d, .bool s, .bool o, .int .u32 a, .int .u32 fr, .int .u32 k, .int .u8 x_t, .int .u64 x_lo, .int .u64 x_hi, .slice L_A L_n L_c] ∧ (-9223372036854775808 ≤ d ∧ d ≤ 9223372036854775807) ∧ (0 ≤ a ∧ a ≤ 4294967295) ∧ (0 ≤ fr ∧ fr ≤ 4294967295) ∧ (0 ≤ k ∧ k ≤ 4294967295) ∧ (0 ≤ x_t ∧ x_t ≤ 255) ∧ (0 ≤ x_lo ∧ x_lo ≤ 18446744073709551615) ∧ (0 ≤ x_hi ∧ x_hi ≤ 18446744073709551615) ∧ Rd enc W 24 [.slice L_A L_n L_c] ws := by
  obtain ⟨hl, hf⟩ := rd_struct (n := 10) Try.underlying62 (by kernel_rfl) h
  match cs, hl with
  | [k0, k1, k2, k3, k4, k5, k6, k7, k8, k9], _ =>
    have g0 : Rd enc W 3 [k0] ws := by
      have h : Rd enc W 3 (([k0, k1, k2, k3, k4, k5, k6, k7, k8, k9].drop 0).take (Try.prog.cellsOf 3)) ws := hf 0 _ rfl
      rw [show Try.prog.cellsOf 3 = 1 from by kernel_rfl] at h
      exact h
    obtain ⟨d, e0, p0⟩ := rd_int Try.underlying3 g0
    have g1 : Rd enc W 4 [k1] ws := by
      have h : Rd enc W 4 (([k0, k1, k2, k3, k4, k5, k6, k7, k8, k9].drop 1).take (Try.prog.cellsOf 4)) ws := hf 1 _ rfl
      rw [show Try.prog.cellsOf 4 = 1 from by kernel_rfl] at h
      exact h
    obtain ⟨s, e1⟩ := rd_bool Try.underlying4 g1
    have g2 : Rd enc W 4 [k2] ws := by
      have h : Rd enc W 4 (([k0, k1, k2, k3, k4, k5, k6, k7, k8, k9].drop 2).take (Try.prog.cellsOf 4)) ws := hf 2 _ rfl
      rw [show Try.prog.cellsOf 4 = 1 from by kernel_rfl] at h
      exact h
    obtain ⟨o, e2⟩ := rd_bool Try.underlying4 g2
    have g3 : Rd enc W 28 [k3] ws := by
      have h : Rd enc W 28 (([k0, k1, k2, k3, k4, k5, k6, k7, k8, k9].drop 3).take (Try.prog.cellsOf 28)) ws := hf 3 _ rfl
      rw [show Try.prog.cellsOf 28 = 1 from by kernel_rfl] at h
      exact h
    obtain ⟨a, e3, p3⟩ := rd_int Try.underlying28 g3
    have g4 : Rd enc W 28 [k4] ws := by
      have h : Rd enc W 28 (([k0, k1, k2, k3, k4, k5, k6, k7, k8, k9].drop 4).take (Try.prog.cellsOf 28)) ws := hf 4 _ rfl
      rw [show Try.prog.cellsOf 28 = 1 from by kernel_rfl] at h
      exact h
    obtain ⟨fr, e4, p4⟩ := rd_int Try.underlying28 g4
    have g5 : Rd enc W 28 [k5] ws := by
      have h : Rd enc W 28 (([k0, k1, k2, k3, k4, k5, k6, k7, k8, k9].drop 5).take (Try.prog.cellsOf 28)) ws := hf 5 _ rfl
      rw [show Try.prog.cellsOf 28 = 1 from by kernel_rfl] at h
      exact h
    obtain ⟨k, e5, p5⟩ := rd_int Try.underlying28 g5
    have g6 : Rd enc W 43 [k6, k7, k8] ws := by
      have h : Rd enc W 43 (([k0, k1, k2, k3, k4, k5, k6, k7, k8, k9].drop 6).take (Try.prog.cellsOf 43)) ws := hf 6 _ rfl
      rw [show Try.prog.cellsOf 43 = 3 from by kernel_rfl] at h
      exact h
    obtain ⟨x_t, x_lo, x_hi, e6, p6_0, p6_1, p6_2⟩ := dec_VAL g6
    have g7 : Rd enc W 24 [k9] ws := by
      have h : Rd enc W 24 (([k0, k1, k2, k3, k4, k5, k6, k7, k8, k9].drop 9).take (Try.prog.cellsOf 24)) ws := hf 7 _ rfl
      rw [show Try.prog.cellsOf 24 = 1 from by kernel_rfl] at h
      exact h
    obtain ⟨L_A, L_n, L_c, e7⟩ := rd_slice_shape Try.underlying24 g7
    rw [e7] at g7
    simp only [List.cons.injEq, and_true] at e0 e1 e2 e3 e4 e5 e6 e7
    refine ⟨d, s, o, a, fr, k, x_t, x_lo, x_hi, L_A, L_n, L_c, ?_, bounds_i64 p0, bounds_u32 p3, bounds_u32 p4, bounds_u32 p5, p6_0, p6_1, p6_2, g7⟩
    simp [e0, e1, e2, e3, e4, e5, e6, e7]

end Go.Proofs.Ytpeekldngelkkaa
