/- How an Act of the statements over checkers reads. No condition. -/
import Derived.Test.YtpbaojjcbpfdaaaRow
namespace Go.Proofs.Ytpbaojjcbpfdaaa
open Go.ChangeShapes Go.WideShapes Go.ChangeAt Go.RowKit Go.Joins

/-- A slice of bytes as a cell. -/
structure ByteSl (W : World) (A : Option Addr) (n c : Nat) (v : Nat → UInt8) : Prop where
  le : n ≤ c
  cm : c ≤ 9223372036854775807
  sl : Sl W A c (byteV v)
  none : A = none → c = 0

/-- An Act's six cells. -/
structure ActIs (W : World) (cs : List Value) (d o n : Int) (t : UInt8) (A : Option Addr) (m c : Nat) (v : Nat → UInt8) (B : Option Addr) (k e : Nat) (u : Nat → UInt8) : Prop where
  cells : cs = [.int .i64 d, .int .u16 o, .int .u32 n, .int .u8 (t.toNat : Int), .slice A m c, .slice B k e]
  bd : -9223372036854775808 ≤ d ∧ d ≤ 9223372036854775807
  bo : 0 ≤ o ∧ o ≤ 65535
  bn : 0 ≤ n ∧ n ≤ 4294967295
  inn : ByteSl W A m c v
  out : ByteSl W B k e u

theorem trod_byteSl {H : Type} {enc : TypeId × Value → H} {W : World} {k : Nat} {x : Value} {y : DataW H × List MemPlace}
    (g6 : DataW.trod enc Try.prog W 0 (fun _ => true) true k 22 [x] = some y) : ∃ A n c v, x = .slice A n c ∧ ByteSl W A n c v := by
  rcases open_ints Try.underlying22 Try.underlying30 (by kernel_rfl) g6 with ⟨h0, _⟩ | ⟨ad, len, cap, zs, h0, _, hle, hm, hz, _, hcell, hwf⟩
  · simp only [List.cons.injEq, and_true] at h0
    exact ⟨none, 0, 0, fun _ => 0, h0, Nat.le_refl _, by omega, Sl.nil _, fun _ => rfl⟩
  · simp only [List.cons.injEq, and_true] at h0
    subst h0
    simp only [if_true] at hz
    refine ⟨some ad, len, cap, fun i => UInt8.ofNat (zs.getD i 0).toNat, rfl, hle, by unfold maxLen at hm; omega, fun hpos => ?_, fun h => by cases h⟩
    obtain ⟨b, off, spot⟩ := ad
    have hspot : spot = none := by simpa [Addr.add] using World.cell?_spot (hcell 0 (by omega))
    subst hspot
    refine ⟨b, off, rfl, fun i hi' => ?_⟩
    rw [← add_plain, hcell i (by omega)]
    have hi2 : i < zs.length := by omega
    have hw := bounds_u8 (hwf (zs.getD i 0) (by simp [List.getD, hi2]))
    show some (Value.int .u8 (zs.getD i 0)) = some (Value.int .u8 ((UInt8.ofNat (zs.getD i 0).toNat).toNat : Int))
    congr 2
    rw [UInt8.toNat_ofNat']
    omega

theorem trod_act {H : Type} {enc : TypeId × Value → H} {W : World} {fuel : Nat} {cs : List Value} {x : DataW H × List MemPlace}
    (h : DataW.trod enc Try.prog W 0 (fun _ => true) true fuel 50 cs = some x) : ∃ d o n t A m c v B k e u, ActIs W cs d o n t A m c v B k e u := by
  obtain ⟨xs, k, _, _, hl, hxl, hf⟩ := DataW.trod_struct Try.underlying50 h
  have hl6 : cs.length = 6 := hl.trans (by kernel_rfl)
  have c1 : Try.prog.cellsOf 3 = 1 := by kernel_rfl
  have c2 : Try.prog.cellsOf 29 = 1 := by kernel_rfl
  have c3 : Try.prog.cellsOf 48 = 1 := by kernel_rfl
  have c4 : Try.prog.cellsOf 30 = 1 := by kernel_rfl
  have c5 : Try.prog.cellsOf 22 = 1 := by kernel_rfl
  match cs, hl6, xs, hxl with
  | [k0, k1, k2, k3, k4, k5], _, [y0, y1, y2, y3, y4, y5], _ =>
    have g0 : DataW.trod enc Try.prog W 0 (fun _ => true) true k 3 [k0] = some y0 := by
      have h : DataW.trod enc Try.prog W 0 (fun _ => true) true k 3 (([k0, k1, k2, k3, k4, k5].drop 0).take (Try.prog.cellsOf 3)) = some y0 := hf 0 _ rfl
      rw [c1] at h; exact h
    have g1 : DataW.trod enc Try.prog W 0 (fun _ => true) true k 29 [k1] = some y1 := by
      have h : DataW.trod enc Try.prog W 0 (fun _ => true) true k 29 (([k0, k1, k2, k3, k4, k5].drop 1).take (Try.prog.cellsOf 29)) = some y1 := hf 1 _ rfl
      rw [c2] at h; exact h
    have g2 : DataW.trod enc Try.prog W 0 (fun _ => true) true k 48 [k2] = some y2 := by
      have h : DataW.trod enc Try.prog W 0 (fun _ => true) true k 48 (([k0, k1, k2, k3, k4, k5].drop 2).take (Try.prog.cellsOf 48)) = some y2 := hf 2 _ rfl
      rw [c3] at h; exact h
    have g3 : DataW.trod enc Try.prog W 0 (fun _ => true) true k 30 [k3] = some y3 := by
      have h : DataW.trod enc Try.prog W 0 (fun _ => true) true k 30 (([k0, k1, k2, k3, k4, k5].drop 3).take (Try.prog.cellsOf 30)) = some y3 := hf 3 _ rfl
      rw [c4] at h; exact h
    have g4 : DataW.trod enc Try.prog W 0 (fun _ => true) true k 22 [k4] = some y4 := by
      have h : DataW.trod enc Try.prog W 0 (fun _ => true) true k 22 (([k0, k1, k2, k3, k4, k5].drop 4).take (Try.prog.cellsOf 22)) = some y4 := hf 4 _ rfl
      rw [c5] at h; exact h
    have g5 : DataW.trod enc Try.prog W 0 (fun _ => true) true k 22 [k5] = some y5 := by
      have h : DataW.trod enc Try.prog W 0 (fun _ => true) true k 22 (([k0, k1, k2, k3, k4, k5].drop 5).take (Try.prog.cellsOf 22)) = some y5 := hf 5 _ rfl
      rw [c5] at h; exact h
    obtain ⟨d, e0, _, w0⟩ := DataW.trod_int Try.underlying3 g0
    obtain ⟨o, e1, _, w1⟩ := DataW.trod_int Try.underlying29 g1
    obtain ⟨n, e2, _, w2⟩ := DataW.trod_int Try.underlying48 g2
    obtain ⟨t, e3, _, w3⟩ := DataW.trod_int Try.underlying30 g3
    obtain ⟨A, m, c, v, e4, hin⟩ := trod_byteSl g4
    obtain ⟨B, kk, e, u, e5, hout⟩ := trod_byteSl g5
    simp only [List.cons.injEq, and_true] at e0 e1 e2 e3
    subst e0 e1 e2 e3 e4 e5
    have hw := bounds_u8 w3
    refine ⟨d, o, n, UInt8.ofNat t.toNat, A, m, c, v, B, kk, e, u, ?_, bounds_i64 w0, ?_, ?_, hin, hout⟩
    · have : ((UInt8.ofNat t.toNat).toNat : Int) = t := by rw [UInt8.toNat_ofNat']; omega
      rw [this]
    · exact bounds_u16 w1
    · exact bounds_u32 w2
end Go.Proofs.Ytpbaojjcbpfdaaa
