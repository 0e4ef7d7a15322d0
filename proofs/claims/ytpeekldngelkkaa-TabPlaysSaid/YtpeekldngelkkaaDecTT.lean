/- How a table's type reads. No condition. -/
import Derived.Test.YtpeekldngelkkaaDec
namespace Go.Proofs.Ytpeekldngelkkaa
open Go.ChangeShapes Go.WideShapes Go.ChangeAt Go.RowKit Go.Joins

theorem dec_LIM {H : Type} {enc : TypeId × Value → H} {W : World} {ws : List Nat} {cs : List Value} (h : Rd enc W 35 cs ws) : ∃ (mn : Int) (mx : Int) (bd : Bool), cs = [.int .u32 mn, .int .u32 mx, .bool bd] ∧ (0 ≤ mn ∧ mn ≤ 4294967295) ∧ (0 ≤ mx ∧ mx ≤ 4294967295) := by
  obtain ⟨hl, hf⟩ := rd_struct (n := 3) Try.underlying35 (by kernel_rfl) h
  match cs, hl with
  | [k0, k1, k2], _ =>
    have g0 : Rd enc W 28 [k0] ws := by
      have h : Rd enc W 28 (([k0, k1, k2].drop 0).take (Try.prog.cellsOf 28)) ws := hf 0 _ rfl
      rw [show Try.prog.cellsOf 28 = 1 from by kernel_rfl] at h
      exact h
    obtain ⟨mn, e0, p0⟩ := rd_int Try.underlying28 g0
    have g1 : Rd enc W 28 [k1] ws := by
      have h : Rd enc W 28 (([k0, k1, k2].drop 1).take (Try.prog.cellsOf 28)) ws := hf 1 _ rfl
      rw [show Try.prog.cellsOf 28 = 1 from by kernel_rfl] at h
      exact h
    obtain ⟨mx, e1, p1⟩ := rd_int Try.underlying28 g1
    have g2 : Rd enc W 4 [k2] ws := by
      have h : Rd enc W 4 (([k0, k1, k2].drop 2).take (Try.prog.cellsOf 4)) ws := hf 2 _ rfl
      rw [show Try.prog.cellsOf 4 = 1 from by kernel_rfl] at h
      exact h
    obtain ⟨bd, e2⟩ := rd_bool Try.underlying4 g2
    simp only [List.cons.injEq, and_true] at e0 e1 e2
    refine ⟨mn, mx, bd, ?_, bounds_u32 p0, bounds_u32 p1⟩
    simp [e0, e1, e2]

theorem dec_TT {H : Type} {enc : TypeId × Value → H} {W : World} {ws : List Nat} {cs : List Value} (h : Rd enc W 41 cs ws) : ∃ (el : Int) (l_mn : Int) (l_mx : Int) (l_bd : Bool), cs = [.int .u8 el, .int .u32 l_mn, .int .u32 l_mx, .bool l_bd] ∧ (0 ≤ el ∧ el ≤ 255) ∧ (0 ≤ l_mn ∧ l_mn ≤ 4294967295) ∧ (0 ≤ l_mx ∧ l_mx ≤ 4294967295) := by
  obtain ⟨hl, hf⟩ := rd_struct (n := 4) Try.underlying41 (by kernel_rfl) h
  match cs, hl with
  | [k0, k1, k2, k3], _ =>
    have g0 : Rd enc W 39 [k0] ws := by
      have h : Rd enc W 39 (([k0, k1, k2, k3].drop 0).take (Try.prog.cellsOf 39)) ws := hf 0 _ rfl
      rw [show Try.prog.cellsOf 39 = 1 from by kernel_rfl] at h
      exact h
    obtain ⟨el, e0, p0⟩ := rd_int Try.underlying39 g0
    have g1 : Rd enc W 35 [k1, k2, k3] ws := by
      have h : Rd enc W 35 (([k0, k1, k2, k3].drop 1).take (Try.prog.cellsOf 35)) ws := hf 1 _ rfl
      rw [show Try.prog.cellsOf 35 = 3 from by kernel_rfl] at h
      exact h
    obtain ⟨l_mn, l_mx, l_bd, e1, p1_0, p1_1⟩ := dec_LIM g1
    simp only [List.cons.injEq, and_true] at e0 e1
    refine ⟨el, l_mn, l_mx, l_bd, ?_, bounds_u8 p0, p1_0, p1_1⟩
    simp [e0, e1]

end Go.Proofs.Ytpeekldngelkkaa
