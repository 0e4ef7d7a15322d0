/- How a list of Acts of the statements over checkers reads. No condition. -/
import Derived.Test.YtpbaojjcbpfdaaaRowU
import Derived.Test.YtpbaojjcbpfdaaaStkBs
namespace Go.Proofs.Ytpbaojjcbpfdaaa
open Go.ChangeShapes Go.WideShapes Go.ChangeAt Go.RowKit Go.Joins

/-- A slice of bytes as a cell. -/
structure ByteSl2 (W : World) (A : Option Addr) (n c : Nat) (v : Nat → UInt8) : Prop where
  le : n ≤ c
  cm : c ≤ 9223372036854775807
  sl : Sl W A c (byteV v)
  none : A = none → c = 0

/-- An Act's six cells. -/
structure ActIs2 (W : World) (cs : List Value) (d o n : Int) (t : UInt8) (A : Option Addr) (m c : Nat) (v : Nat → UInt8) (B : Option Addr) (k e : Nat) (u : Nat → UInt8) : Prop where
  cells : cs = [.int .i64 d, .int .u16 o, .int .u32 n, .int .u8 (t.toNat : Int), .slice A m c, .slice B k e]
  bd : -9223372036854775808 ≤ d ∧ d ≤ 9223372036854775807
  bo : 0 ≤ o ∧ o ≤ 65535
  bn : 0 ≤ n ∧ n ≤ 4294967295
  inn : ByteSl2 W A m c v
  out : ByteSl2 W B k e u

theorem trod_byteSl2 {H : Type} {enc : TypeId × Value → H} {W : World} {k : Nat} {x : Value} {y : DataW H × List MemPlace}
    (g6 : DataW.trod enc Try.prog W 0 (fun _ => true) true k 22 [x] = some y) : ∃ A n c v, x = .slice A n c ∧ ByteSl2 W A n c v ∧ c ≤ Rows.uptoBulk y.1 := by
  rcases open_ints Try.underlying22 Try.underlying30 (by kernel_rfl) g6 with ⟨h0, _⟩ | ⟨ad, len, cap, zs, h0, _, hle, hm, hz, hy, hcell, hwf⟩
  · simp only [List.cons.injEq, and_true] at h0
    exact ⟨none, 0, 0, fun _ => 0, h0, ⟨Nat.le_refl _, by omega, Sl.nil _, fun _ => rfl⟩, Nat.zero_le _⟩
  · simp only [List.cons.injEq, and_true] at h0
    subst h0
    simp only [if_true] at hz
    refine ⟨some ad, len, cap, fun i => UInt8.ofNat (zs.getD i 0).toNat, rfl, ⟨hle, by unfold maxLen at hm; omega, fun hpos => ?_, fun h => by cases h⟩, ?_⟩
    rotate_left
    · subst hy
      have := bulk_slice (H := H) (lits .u8 (zs.take len)) (lits .u8 (zs.drop len))
      simp only [lits, List.length_map, List.length_take, List.length_drop] at this ⊢
      omega
    obtain ⟨b, off, spot⟩ := ad
    have hspot : spot = none := by simpa [Addr.add] using World.cell?_spot (hcell 0 (by omega))
    subst hspot
    refine ⟨b, off, rfl, fun i hi' => ?_⟩
    rw [← add_plain, hcell i (by omega)]
    have hi2 : i < zs.length := by omega
    have hw := bounds_u8 (hwf (zs.getD i 0) (by simp [List.getD, hi2]))
    show some (Value.int .u8 (zs.getD i 0)) = some (Value.int .u8 ((UInt8.ofNat (zs.getD i 0).toNat).toNat : Int))
    congr 2
    rw [UInt8.toNat_ofNat']
    omega

theorem trod_act2 {H : Type} {enc : TypeId × Value → H} {W : World} {fuel : Nat} {cs : List Value} {x : DataW H × List MemPlace}
    (h : DataW.trod enc Try.prog W 0 (fun _ => true) true fuel 50 cs = some x) : ∃ d o n t A m c v B k e u, ActIs2 W cs d o n t A m c v B k e u ∧ c ≤ Rows.uptoBulk x.1 ∧ e ≤ Rows.uptoBulk x.1 := by
  obtain ⟨xs, k, _, hx, hl, hxl, hf⟩ := DataW.trod_struct Try.underlying50 h
  have hl6 : cs.length = 6 := hl.trans (by kernel_rfl)
  have c1 : Try.prog.cellsOf 3 = 1 := by kernel_rfl
  have c2 : Try.prog.cellsOf 29 = 1 := by kernel_rfl
  have c3 : Try.prog.cellsOf 48 = 1 := by kernel_rfl
  have c4 : Try.prog.cellsOf 30 = 1 := by kernel_rfl
  have c5 : Try.prog.cellsOf 22 = 1 := by kernel_rfl
  match cs, hl6, xs, hxl with
  | [k0, k1, k2, k3, k4, k5], _, [y0, y1, y2, y3, y4, y5], _ =>
    have g0 : DataW.trod enc Try.prog W 0 (fun _ => true) true k 3 [k0] = some y0 := by
      have h : DataW.trod enc Try.prog W 0 (fun _ => true) true k 3 (([k0, k1, k2, k3, k4, k5].drop 0).take (Try.prog.cellsOf 3)) = some y0 := hf 0 _ rfl
      rw [c1] at h; exact h
    have g1 : DataW.trod enc Try.prog W 0 (fun _ => true) true k 29 [k1] = some y1 := by
      have h : DataW.trod enc Try.prog W 0 (fun _ => true) true k 29 (([k0, k1, k2, k3, k4, k5].drop 1).take (Try.prog.cellsOf 29)) = some y1 := hf 1 _ rfl
      rw [c2] at h; exact h
    have g2 : DataW.trod enc Try.prog W 0 (fun _ => true) true k 48 [k2] = some y2 := by
      have h : DataW.trod enc Try.prog W 0 (fun _ => true) true k 48 (([k0, k1, k2, k3, k4, k5].drop 2).take (Try.prog.cellsOf 48)) = some y2 := hf 2 _ rfl
      rw [c3] at h; exact h
    have g3 : DataW.trod enc Try.prog W 0 (fun _ => true) true k 30 [k3] = some y3 := by
      have h : DataW.trod enc Try.prog W 0 (fun _ => true) true k 30 (([k0, k1, k2, k3, k4, k5].drop 3).take (Try.prog.cellsOf 30)) = some y3 := hf 3 _ rfl
      rw [c4] at h; exact h
    have g4 : DataW.trod enc Try.prog W 0 (fun _ => true) true k 22 [k4] = some y4 := by
      have h : DataW.trod enc Try.prog W 0 (fun _ => true) true k 22 (([k0, k1, k2, k3, k4, k5].drop 4).take (Try.prog.cellsOf 22)) = some y4 := hf 4 _ rfl
      rw [c5] at h; exact h
    have g5 : DataW.trod enc Try.prog W 0 (fun _ => true) true k 22 [k5] = some y5 := by
      have h : DataW.trod enc Try.prog W 0 (fun _ => true) true k 22 (([k0, k1, k2, k3, k4, k5].drop 5).take (Try.prog.cellsOf 22)) = some y5 := hf 5 _ rfl
      rw [c5] at h; exact h
    obtain ⟨d, e0, _, w0⟩ := DataW.trod_int Try.underlying3 g0
    obtain ⟨o, e1, _, w1⟩ := DataW.trod_int Try.underlying29 g1
    obtain ⟨n, e2, _, w2⟩ := DataW.trod_int Try.underlying48 g2
    obtain ⟨t, e3, _, w3⟩ := DataW.trod_int Try.underlying30 g3
    obtain ⟨A, m, c, v, e4, hin, hbc⟩ := trod_byteSl2 g4
    obtain ⟨B, kk, e, u, e5, hout, hbe⟩ := trod_byteSl2 g5
    simp only [List.cons.injEq, and_true] at e0 e1 e2 e3
    subst e0 e1 e2 e3 e4 e5
    have hw := bounds_u8 w3
    have hx1 : Rows.uptoBulk x.1 = Rows.uptoBulk y0.1 + (Rows.uptoBulk y1.1 + (Rows.uptoBulk y2.1 + (Rows.uptoBulk y3.1 + (Rows.uptoBulk y4.1 + (Rows.uptoBulk y5.1 + 0))))) + 1 := by
      rw [hx]
      simp only [List.map_cons, List.map_nil, Rows.uptoBulk, Rows.uptoBulkAll]
    refine ⟨d, o, n, UInt8.ofNat t.toNat, A, m, c, v, B, kk, e, u, ⟨?_, bounds_i64 w0, bounds_u16 w1, bounds_u32 w2, hin, hout⟩, by omega, by omega⟩
    have : ((UInt8.ofNat t.toNat).toNat : Int) = t := by rw [UInt8.toNat_ofNat']; omega
    rw [this]

/-- A list of acts, as it came. -/
theorem trod_acts {H : Type} {enc : TypeId × Value → H} {W : World} {fuel : Nat} {x : Value} {y : DataW H × List MemPlace}
    (h : DataW.trod enc Try.prog W 0 (fun _ => true) true fuel 42 [x] = some y) (hb : Rows.uptoBulk y.1 ≤ 1048576) : ∃ L l lc a, x = .slice L l lc ∧ ActsAt W L l a := by
  have c6 : Try.prog.cellsOf 50 = 6 := by kernel_rfl
  rcases DataW.trod_slice Try.underlying42 h with ⟨h0, _⟩ | ⟨ad, len, cap, elems, rest, n, _, h0, hy, _, hle, hm, hlen, hel, _, _⟩
  · simp only [List.cons.injEq, and_true] at h0
    exact ⟨none, 0, 0, fun _ => ⟨0, 0, 0, 0, none, 0, 0, fun _ => 0, none, 0, 0, fun _ => 0⟩, h0, ⟨fun h => absurd h (by omega), by omega⟩⟩
  · simp only [List.cons.injEq, and_true] at h0
    subst h0
    have hbulk : ∀ (i : Nat) (z : DataW H × List MemPlace), elems[i]? = some z → Rows.uptoBulk z.1 ≤ 1048576 := fun i z hz => by
      have h1 : z.1 ∈ elems.map (·.1) := List.mem_map.2 ⟨z, List.mem_of_getElem? hz, rfl⟩
      have h2 := bulk_mem h1
      rw [hy] at hb
      simp only [Rows.uptoBulk] at hb
      omega
    have hcells : ∀ i, i < len → ∃ cs, W.cells? 0 (ad.add (i * 6)) 6 = some cs ∧ ∃ z, elems[i]? = some z ∧ DataW.trod enc Try.prog W 0 (fun _ => true) true n 50 cs = some z := fun i hi => by
      have hz := hel i hi
      have hzi : i < elems.length := by omega
      rw [List.getElem?_eq_getElem hzi, Option.bind_eq_some_iff, c6] at hz
      obtain ⟨cs, hcs, htr⟩ := hz
      exact ⟨cs, hcs, _, List.getElem?_eq_getElem hzi, htr⟩
    rcases Nat.eq_zero_or_pos len with h0 | hpos
    · subst h0
      exact ⟨_, 0, cap, fun _ => ⟨0, 0, 0, 0, none, 0, 0, fun _ => 0, none, 0, 0, fun _ => 0⟩, rfl, ⟨fun h => absurd h (by omega), by omega⟩⟩
    obtain ⟨b, off, spot⟩ := ad
    have hspot : spot = none := by
      obtain ⟨cs, hcs, z, _, htr⟩ := hcells 0 hpos
      obtain ⟨d, o, nn, t, A, mi, c, v, B, k, e, u, hact, _, _⟩ := trod_act2 htr
      obtain ⟨_, _, hcc⟩ := World.cells?_some hcs
      have hc0 := hcc 0 (by omega)
      have h3 : cs[0]? = some (.int .i64 d) := by rw [hact.cells]; rfl
      rw [h3] at hc0
      simpa [Addr.add] using World.cell?_spot hc0
    subst hspot
    have each : ∀ i, ∃ a : ActV, i < len → ActOk W b (off + i * 6) a := fun i => by
      by_cases hi : i < len
      · obtain ⟨cs, hcs, z, hz, htr⟩ := hcells i hi
        obtain ⟨d, o, nn, t, A, mi, c, v, B, k, e, u, hact, hc, he⟩ := trod_act2 htr
        have hbk := hbulk i _ hz
        obtain ⟨_, hll, hcc⟩ := World.cells?_some hcs
        obtain ⟨nn, rfl⟩ := Int.eq_ofNat_of_zero_le hact.bn.1
        have hcB : c ≤ 140737488351232 := by omega
        have heB : e ≤ 140737488351232 := by omega
        have hin := came_arg hact.inn.sl hact.inn.le hcB hact.inn.none
        have hout := came_arg hact.out.sl hact.out.le heB hact.out.none
        have hnB := hact.bn.2
        have hle := hact.inn.le
        refine ⟨⟨d, o, nn, t, A, mi, c, v, B, k, e, u⟩, fun _ => ⟨fun j hj => ?_, hin, hout, show nn ≤ 4294967295 by omega, show mi ≤ 1048576 by omega⟩⟩
        have h4 := hcc j hj
        rw [add_plain, add_plain] at h4
        rw [h4, hact.cells]
        match j, hj with
        | 0, _ => rfl
        | 1, _ => rfl
        | 2, _ => rfl
        | 3, _ => rfl
        | 4, _ => rfl
        | 5, _ => rfl
      · exact ⟨⟨0, 0, 0, 0, none, 0, 0, fun _ => 0, none, 0, 0, fun _ => 0⟩, fun h => absurd h hi⟩
    obtain ⟨a, ha⟩ := Classical.axiomOfChoice each
    exact ⟨_, len, cap, a, rfl, ⟨fun _ => ⟨b, off, rfl, fun i hi => ha i hi⟩, by unfold maxLen at hm; omega⟩⟩
end Go.Proofs.Ytpbaojjcbpfdaaa
