/- How an Act of the statements over memories reads. No condition. -/
import Derived.Test.YtjkndigmoclnoaaRow
namespace Go.Proofs.Ytjkndigmoclnoaa
open Go.ChangeShapes Go.WideShapes Go.ChangeAt Go.RowKit Go.Joins

/-- An Act's eight cells. -/
structure ActIs (W : World) (cs : List Value) (d a f n s lo hi : Int) (A : Option Addr) (m c : Nat) (v : Nat → UInt8) : Prop where
  cells : cs = [.int .i64 d, .int .u64 a, .int .u64 f, .int .u64 n, .int .i64 s, .int .u64 lo, .int .u64 hi, .slice A m c]
  bd : -9223372036854775808 ≤ d ∧ d ≤ 9223372036854775807
  ba : 0 ≤ a ∧ a ≤ 18446744073709551615
  bf : 0 ≤ f ∧ f ≤ 18446744073709551615
  bn : 0 ≤ n ∧ n ≤ 18446744073709551615
  bs : -9223372036854775808 ≤ s ∧ s ≤ 9223372036854775807
  bl : 0 ≤ lo ∧ lo ≤ 18446744073709551615
  bh : 0 ≤ hi ∧ hi ≤ 18446744073709551615
  mc : m ≤ c
  cm : c ≤ 9223372036854775807
  sl : Sl W A c (byteV v)

theorem trod_act {H : Type} {enc : TypeId × Value → H} {W : World} {fuel : Nat} {cs : List Value} {x : DataW H × List MemPlace}
    (h : DataW.trod enc Try.prog W 0 (fun _ => true) true fuel 62 cs = some x) : ∃ d a f n s lo hi A m c v, ActIs W cs d a f n s lo hi A m c v := by
  obtain ⟨xs, k, _, _, hl, hxl, hf⟩ := DataW.trod_struct Try.underlying62 h
  have hl8 : cs.length = 8 := hl.trans (by kernel_rfl)
  have c1 : Try.prog.cellsOf 3 = 1 := by kernel_rfl
  have c2 : Try.prog.cellsOf 32 = 1 := by kernel_rfl
  have c3 : Try.prog.cellsOf 47 = 2 := by kernel_rfl
  have c4 : Try.prog.cellsOf 36 = 1 := by kernel_rfl
  match cs, hl8, xs, hxl with
  | [k0, k1, k2, k3, k4, k5, k6, k7], _, [y0, y1, y2, y3, y4, y5, y6], _ =>
    have g0 : DataW.trod enc Try.prog W 0 (fun _ => true) true k 3 [k0] = some y0 := by
      have h : DataW.trod enc Try.prog W 0 (fun _ => true) true k 3 (([k0, k1, k2, k3, k4, k5, k6, k7].drop 0).take (Try.prog.cellsOf 3)) = some y0 := hf 0 _ rfl
      rw [c1] at h; exact h
    have g1 : DataW.trod enc Try.prog W 0 (fun _ => true) true k 32 [k1] = some y1 := by
      have h : DataW.trod enc Try.prog W 0 (fun _ => true) true k 32 (([k0, k1, k2, k3, k4, k5, k6, k7].drop 1).take (Try.prog.cellsOf 32)) = some y1 := hf 1 _ rfl
      rw [c2] at h; exact h
    have g2 : DataW.trod enc Try.prog W 0 (fun _ => true) true k 32 [k2] = some y2 := by
      have h : DataW.trod enc Try.prog W 0 (fun _ => true) true k 32 (([k0, k1, k2, k3, k4, k5, k6, k7].drop 2).take (Try.prog.cellsOf 32)) = some y2 := hf 2 _ rfl
      rw [c2] at h; exact h
    have g3 : DataW.trod enc Try.prog W 0 (fun _ => true) true k 32 [k3] = some y3 := by
      have h : DataW.trod enc Try.prog W 0 (fun _ => true) true k 32 (([k0, k1, k2, k3, k4, k5, k6, k7].drop 3).take (Try.prog.cellsOf 32)) = some y3 := hf 3 _ rfl
      rw [c2] at h; exact h
    have g4 : DataW.trod enc Try.prog W 0 (fun _ => true) true k 3 [k4] = some y4 := by
      have h : DataW.trod enc Try.prog W 0 (fun _ => true) true k 3 (([k0, k1, k2, k3, k4, k5, k6, k7].drop 4).take (Try.prog.cellsOf 3)) = some y4 := hf 4 _ rfl
      rw [c1] at h; exact h
    have g5 : DataW.trod enc Try.prog W 0 (fun _ => true) true k 47 [k5, k6] = some y5 := by
      have h : DataW.trod enc Try.prog W 0 (fun _ => true) true k 47 (([k0, k1, k2, k3, k4, k5, k6, k7].drop 5).take (Try.prog.cellsOf 47)) = some y5 := hf 5 _ rfl
      rw [c3] at h; exact h
    have g6 : DataW.trod enc Try.prog W 0 (fun _ => true) true k 36 [k7] = some y6 := by
      have h : DataW.trod enc Try.prog W 0 (fun _ => true) true k 36 (([k0, k1, k2, k3, k4, k5, k6, k7].drop 7).take (Try.prog.cellsOf 36)) = some y6 := hf 6 _ rfl
      rw [c4] at h; exact h
    obtain ⟨d, e0, _, w0⟩ := DataW.trod_int Try.underlying3 g0
    obtain ⟨a, e1, _, w1⟩ := DataW.trod_int Try.underlying32 g1
    obtain ⟨f, e2, _, w2⟩ := DataW.trod_int Try.underlying32 g2
    obtain ⟨n, e3, _, w3⟩ := DataW.trod_int Try.underlying32 g3
    obtain ⟨s, e4, _, w4⟩ := DataW.trod_int Try.underlying3 g4
    obtain ⟨z0, z1, kk, _, _, q0, q1⟩ := trod_struct2 Try.underlying47 g5
    have q0' : DataW.trod enc Try.prog W 0 (fun _ => true) true kk 32 [k5] = some z0 := by
      have h : DataW.trod enc Try.prog W 0 (fun _ => true) true kk 32 (([k5, k6].drop 0).take (Try.prog.cellsOf 32)) = some z0 := q0
      rw [c2] at h; exact h
    have q1' : DataW.trod enc Try.prog W 0 (fun _ => true) true kk 32 [k6] = some z1 := by
      have h : DataW.trod enc Try.prog W 0 (fun _ => true) true kk 32 (([k5, k6].drop 1).take (Try.prog.cellsOf 32)) = some z1 := q1
      rw [c2] at h; exact h
    obtain ⟨lo, e5, _, w5⟩ := DataW.trod_int Try.underlying32 q0'
    obtain ⟨hi, e6, _, w6⟩ := DataW.trod_int Try.underlying32 q1'
    simp only [List.cons.injEq, and_true] at e0 e1 e2 e3 e4 e5 e6
    subst e0 e1 e2 e3 e4 e5 e6
    rcases open_ints Try.underlying36 Try.underlying5 (by kernel_rfl) g6 with ⟨h0, _⟩ | ⟨ad, len, cap, zs, h0, _, hle, hm, hz, _, hcell, hwf⟩
    · simp only [List.cons.injEq, and_true] at h0
      subst h0
      exact ⟨d, a, f, n, s, lo, hi, none, 0, 0, fun _ => 0, rfl, bounds_i64 w0, bounds_u64 w1, bounds_u64 w2, bounds_u64 w3, bounds_i64 w4, bounds_u64 w5, bounds_u64 w6, Nat.le_refl _, by omega, Sl.nil _⟩
    · simp only [List.cons.injEq, and_true] at h0
      subst h0
      simp only [if_true] at hz
      refine ⟨d, a, f, n, s, lo, hi, some ad, len, cap, fun i => UInt8.ofNat (zs.getD i 0).toNat, rfl, bounds_i64 w0, bounds_u64 w1, bounds_u64 w2, bounds_u64 w3, bounds_i64 w4, bounds_u64 w5, bounds_u64 w6, hle, by unfold maxLen at hm; omega, fun hpos => ?_⟩
      obtain ⟨b, off, spot⟩ := ad
      have hspot : spot = none := by simpa [Addr.add] using World.cell?_spot (hcell 0 (by omega))
      subst hspot
      refine ⟨b, off, rfl, fun i hi' => ?_⟩
      rw [← add_plain, hcell i (by omega)]
      have hi2 : i < zs.length := by omega
      have hw := bounds_u8 (hwf (zs.getD i 0) (by simp [List.getD, hi2]))
      show some (Value.int .u8 (zs.getD i 0)) = some (Value.int .u8 ((UInt8.ofNat (zs.getD i 0).toNat).toNat : Int))
      congr 2
      rw [UInt8.toNat_ofNat']
      omega
end Go.Proofs.Ytjkndigmoclnoaa
