/- How an Act of the statements over tables reads: its cells' shape. No condition. -/
import Derived.Test.YtpeekldngelkkaaRow
namespace Go.Proofs.Ytpeekldngelkkaa
open Go.ChangeShapes Go.WideShapes Go.ChangeAt Go.RowKit Go.Joins

/-- An Act's ten cells. -/
structure ActIs (cs : List Value) (d : Int) (s o : Bool) (a f n t lo hi : Int) (A : Option Addr) (m c : Nat) : Prop where
  cells : cs = [.int .i64 d, .bool s, .bool o, .int .u32 a, .int .u32 f, .int .u32 n, .int .u8 t, .int .u64 lo, .int .u64 hi, .slice A m c]

theorem trod_act {H : Type} {enc : TypeId × Value → H} {W : World} {fuel : Nat} {cs : List Value} {x : DataW H × List MemPlace}
    (h : DataW.trod enc Try.prog W 0 (fun _ => true) true fuel 62 cs = some x) : ∃ d s o a f n t lo hi A m c, ActIs cs d s o a f n t lo hi A m c := by
  obtain ⟨xs, k, _, _, hl, hxl, hf⟩ := DataW.trod_struct Try.underlying62 h
  have hl10 : cs.length = 10 := hl.trans (by kernel_rfl)
  have c1 : Try.prog.cellsOf 3 = 1 := by kernel_rfl
  have c2 : Try.prog.cellsOf 4 = 1 := by kernel_rfl
  have c3 : Try.prog.cellsOf 28 = 1 := by kernel_rfl
  have c4 : Try.prog.cellsOf 43 = 3 := by kernel_rfl
  have c5 : Try.prog.cellsOf 24 = 1 := by kernel_rfl
  have c6 : Try.prog.cellsOf 39 = 1 := by kernel_rfl
  have c7 : Try.prog.cellsOf 36 = 1 := by kernel_rfl
  match cs, hl10, xs, hxl with
  | [k0, k1, k2, k3, k4, k5, k6, k7, k8, k9], _, [y0, y1, y2, y3, y4, y5, y6, y7], _ =>
    have g0 : DataW.trod enc Try.prog W 0 (fun _ => true) true k 3 [k0] = some y0 := by
      have h : DataW.trod enc Try.prog W 0 (fun _ => true) true k 3 (([k0, k1, k2, k3, k4, k5, k6, k7, k8, k9].drop 0).take (Try.prog.cellsOf 3)) = some y0 := hf 0 _ rfl
      rw [c1] at h; exact h
    have g1 : DataW.trod enc Try.prog W 0 (fun _ => true) true k 4 [k1] = some y1 := by
      have h : DataW.trod enc Try.prog W 0 (fun _ => true) true k 4 (([k0, k1, k2, k3, k4, k5, k6, k7, k8, k9].drop 1).take (Try.prog.cellsOf 4)) = some y1 := hf 1 _ rfl
      rw [c2] at h; exact h
    have g2 : DataW.trod enc Try.prog W 0 (fun _ => true) true k 4 [k2] = some y2 := by
      have h : DataW.trod enc Try.prog W 0 (fun _ => true) true k 4 (([k0, k1, k2, k3, k4, k5, k6, k7, k8, k9].drop 2).take (Try.prog.cellsOf 4)) = some y2 := hf 2 _ rfl
      rw [c2] at h; exact h
    have g3 : DataW.trod enc Try.prog W 0 (fun _ => true) true k 28 [k3] = some y3 := by
      have h : DataW.trod enc Try.prog W 0 (fun _ => true) true k 28 (([k0, k1, k2, k3, k4, k5, k6, k7, k8, k9].drop 3).take (Try.prog.cellsOf 28)) = some y3 := hf 3 _ rfl
      rw [c3] at h; exact h
    have g4 : DataW.trod enc Try.prog W 0 (fun _ => true) true k 28 [k4] = some y4 := by
      have h : DataW.trod enc Try.prog W 0 (fun _ => true) true k 28 (([k0, k1, k2, k3, k4, k5, k6, k7, k8, k9].drop 4).take (Try.prog.cellsOf 28)) = some y4 := hf 4 _ rfl
      rw [c3] at h; exact h
    have g5 : DataW.trod enc Try.prog W 0 (fun _ => true) true k 28 [k5] = some y5 := by
      have h : DataW.trod enc Try.prog W 0 (fun _ => true) true k 28 (([k0, k1, k2, k3, k4, k5, k6, k7, k8, k9].drop 5).take (Try.prog.cellsOf 28)) = some y5 := hf 5 _ rfl
      rw [c3] at h; exact h
    have g6 : DataW.trod enc Try.prog W 0 (fun _ => true) true k 43 [k6, k7, k8] = some y6 := by
      have h : DataW.trod enc Try.prog W 0 (fun _ => true) true k 43 (([k0, k1, k2, k3, k4, k5, k6, k7, k8, k9].drop 6).take (Try.prog.cellsOf 43)) = some y6 := hf 6 _ rfl
      rw [c4] at h; exact h
    have g7 : DataW.trod enc Try.prog W 0 (fun _ => true) true k 24 [k9] = some y7 := by
      have h : DataW.trod enc Try.prog W 0 (fun _ => true) true k 24 (([k0, k1, k2, k3, k4, k5, k6, k7, k8, k9].drop 9).take (Try.prog.cellsOf 24)) = some y7 := hf 7 _ rfl
      rw [c5] at h; exact h
    obtain ⟨d, e0, _, _⟩ := DataW.trod_int Try.underlying3 g0
    obtain ⟨s, e1, _⟩ := DataW.trod_bool Try.underlying4 g1
    obtain ⟨o, e2, _⟩ := DataW.trod_bool Try.underlying4 g2
    obtain ⟨a, e3, _, _⟩ := DataW.trod_int Try.underlying28 g3
    obtain ⟨f, e4, _, _⟩ := DataW.trod_int Try.underlying28 g4
    obtain ⟨n, e5, _, _⟩ := DataW.trod_int Try.underlying28 g5
    obtain ⟨zs, kk, _, _, _, hzl, hz⟩ := DataW.trod_struct Try.underlying43 g6
    match zs, hzl with
    | [z0, z1, z2], _ =>
      have q0 : DataW.trod enc Try.prog W 0 (fun _ => true) true kk 39 [k6] = some z0 := by
        have h : DataW.trod enc Try.prog W 0 (fun _ => true) true kk 39 (([k6, k7, k8].drop 0).take (Try.prog.cellsOf 39)) = some z0 := hz 0 _ rfl
        rw [c6] at h; exact h
      have q1 : DataW.trod enc Try.prog W 0 (fun _ => true) true kk 36 [k7] = some z1 := by
        have h : DataW.trod enc Try.prog W 0 (fun _ => true) true kk 36 (([k6, k7, k8].drop 1).take (Try.prog.cellsOf 36)) = some z1 := hz 1 _ rfl
        rw [c7] at h; exact h
      have q2 : DataW.trod enc Try.prog W 0 (fun _ => true) true kk 36 [k8] = some z2 := by
        have h : DataW.trod enc Try.prog W 0 (fun _ => true) true kk 36 (([k6, k7, k8].drop 2).take (Try.prog.cellsOf 36)) = some z2 := hz 2 _ rfl
        rw [c7] at h; exact h
      obtain ⟨t, e6, _, _⟩ := DataW.trod_int Try.underlying39 q0
      obtain ⟨lo, e7, _, _⟩ := DataW.trod_int Try.underlying36 q1
      obtain ⟨hi, e8, _, _⟩ := DataW.trod_int Try.underlying36 q2
      simp only [List.cons.injEq, and_true] at e0 e1 e2 e3 e4 e5 e6 e7 e8
      subst e0 e1 e2 e3 e4 e5 e6 e7 e8
      rcases DataW.trod_slice Try.underlying24 g7 with ⟨h0, _⟩ | ⟨ad, len, cap, _, _, _, _, h0, _⟩
      · simp only [List.cons.injEq, and_true] at h0
        subst h0
        exact ⟨d, s, o, a, f, n, t, lo, hi, none, 0, 0, ⟨rfl⟩⟩
      · simp only [List.cons.injEq, and_true] at h0
        subst h0
        exact ⟨d, s, o, a, f, n, t, lo, hi, some ad, len, cap, ⟨rfl⟩⟩
end Go.Proofs.Ytpeekldngelkkaa
