/- How a list of values reads. No condition. -/
import Derived.Test.YtpeekldngelkkaaRow
import Derived.Test.YtpeekldngelkkaaBase4
namespace Go.Proofs.Ytpeekldngelkkaa
open Go.ChangeShapes Go.WideShapes Go.ChangeAt Go.RowKit Go.Joins

/-- A value that may be. -/
structure V3.Wf (x : V3) : Prop where
  t0 : 0 ≤ x.t
  t1 : x.t ≤ 255
  l0 : 0 ≤ x.lo
  l1 : x.lo ≤ 18446744073709551615
  h0 : 0 ≤ x.hi
  h1 : x.hi ≤ 18446744073709551615

theorem trod_val {H : Type} {enc : TypeId × Value → H} {W : World} {fuel : Nat} {cs : List Value} {x : DataW H × List MemPlace}
    (h : DataW.trod enc Try.prog W 0 (fun _ => true) true fuel 43 cs = some x) : ∃ y : V3, cs = [.int .u8 y.t, .int .u64 y.lo, .int .u64 y.hi] ∧ y.Wf := by
  obtain ⟨zs, kk, _, _, hl, hzl, hz⟩ := DataW.trod_struct Try.underlying43 h
  have hl3 : cs.length = 3 := hl.trans (by kernel_rfl)
  have c6 : Try.prog.cellsOf 39 = 1 := by kernel_rfl
  have c7 : Try.prog.cellsOf 36 = 1 := by kernel_rfl
  match cs, hl3, zs, hzl with
  | [k6, k7, k8], _, [z0, z1, z2], _ =>
    have q0 : DataW.trod enc Try.prog W 0 (fun _ => true) true kk 39 [k6] = some z0 := by
      have h : DataW.trod enc Try.prog W 0 (fun _ => true) true kk 39 (([k6, k7, k8].drop 0).take (Try.prog.cellsOf 39)) = some z0 := hz 0 _ rfl
      rw [c6] at h; exact h
    have q1 : DataW.trod enc Try.prog W 0 (fun _ => true) true kk 36 [k7] = some z1 := by
      have h : DataW.trod enc Try.prog W 0 (fun _ => true) true kk 36 (([k6, k7, k8].drop 1).take (Try.prog.cellsOf 36)) = some z1 := hz 1 _ rfl
      rw [c7] at h; exact h
    have q2 : DataW.trod enc Try.prog W 0 (fun _ => true) true kk 36 [k8] = some z2 := by
      have h : DataW.trod enc Try.prog W 0 (fun _ => true) true kk 36 (([k6, k7, k8].drop 2).take (Try.prog.cellsOf 36)) = some z2 := hz 2 _ rfl
      rw [c7] at h; exact h
    obtain ⟨t, e6, _, w6⟩ := DataW.trod_int Try.underlying39 q0
    obtain ⟨lo, e7, _, w7⟩ := DataW.trod_int Try.underlying36 q1
    obtain ⟨hi, e8, _, w8⟩ := DataW.trod_int Try.underlying36 q2
    simp only [List.cons.injEq, and_true] at e6 e7 e8
    subst e6 e7 e8
    exact ⟨⟨t, lo, hi⟩, rfl, (bounds_u8 w6).1, (bounds_u8 w6).2, (bounds_u64 w7).1, (bounds_u64 w7).2, (bounds_u64 w8).1, (bounds_u64 w8).2⟩

/-- A list of values that came in. -/
structure ValsSl (W : World) (A : Option Addr) (n c : Nat) (v : Nat → V3) : Prop where
  le : n ≤ c
  cm : c ≤ 9223372036854775807
  sl : Sl W A (n * 3) (vcell v)
  none : A = none → c = 0
  wf : ∀ i, i < n → (v i).Wf

theorem trod_vals {H : Type} {enc : TypeId × Value → H} {W : World} {k : Nat} {x : Value} {y : DataW H × List MemPlace}
    (h : DataW.trod enc Try.prog W 0 (fun _ => true) true k 24 [x] = some y) : ∃ A n c v, x = .slice A n c ∧ ValsSl W A n c v ∧ ((∀ q ∈ y.1.weights Try.prog 24, q ≤ reachBytes) → n * 24 ≤ 140737488351232) := by
  have c3 : Try.prog.cellsOf 43 = 3 := by kernel_rfl
  have b3 : Try.prog.bytesOf 43 = 24 := by kernel_rfl
  rcases DataW.trod_slice Try.underlying24 h with ⟨h0, _⟩ | ⟨ad, len, cap, elems, rest, n, _, h0, hy, _, hle, hm, hlen, hel, _, _⟩
  · simp only [List.cons.injEq, and_true] at h0
    exact ⟨none, 0, 0, fun _ => ⟨0, 0, 0⟩, h0, ⟨Nat.le_refl _, by omega, Sl.nil _, fun _ => rfl, fun i hi => absurd hi (by omega)⟩, fun _ => by omega⟩
  · simp only [List.cons.injEq, and_true] at h0
    subst h0
    have hw : (∀ q ∈ y.1.weights Try.prog 24, q ≤ reachBytes) → len * 24 ≤ 140737488351232 := fun h1 => by
      have h2 := h1 (((elems.map (·.1)).length + (rest.map (·.1)).length) * Try.prog.bytesOf 43) (by rw [hy]; simp [DataW.weights, Try.underlying24])
      rw [b3] at h2
      simp only [List.length_map, hlen, reachBytes] at h2
      omega
    have hcells : ∀ i, i < len → ∃ cs, W.cells? 0 (ad.add (i * 3)) 3 = some cs ∧ ∃ z, DataW.trod enc Try.prog W 0 (fun _ => true) true n 43 cs = some z := fun i hi => by
      have hz := hel i hi
      have hzi : i < elems.length := by omega
      rw [List.getElem?_eq_getElem hzi, Option.bind_eq_some_iff, c3] at hz
      obtain ⟨cs, hcs, htr⟩ := hz
      exact ⟨cs, hcs, _, htr⟩
    have hcm : cap ≤ 9223372036854775807 := by unfold maxLen at hm; omega
    rcases Nat.eq_zero_or_pos len with h0 | hpos
    · subst h0
      exact ⟨_, 0, cap, fun _ => ⟨0, 0, 0⟩, rfl, ⟨hle, hcm, Sl.nil _, (fun h => by cases h), fun i hi => absurd hi (by omega)⟩, hw⟩
    obtain ⟨b, off, spot⟩ := ad
    have hspot : spot = none := by
      obtain ⟨cs, hcs, z, htr⟩ := hcells 0 hpos
      obtain ⟨y0, hcs0, _⟩ := trod_val htr
      obtain ⟨_, _, hcc⟩ := World.cells?_some hcs
      have hc0 := hcc 0 (by omega)
      have h3 : cs[0]? = some (.int .u8 y0.t) := by rw [hcs0]; rfl
      rw [h3] at hc0
      simpa [Addr.add] using World.cell?_spot hc0
    subst hspot
    have each : ∀ i, ∃ a : V3, i < len → a.Wf ∧ ∀ j, j < 3 → W.cell? ⟨b, off + i * 3 + j, none⟩ = some (vpart a j) := fun i => by
      by_cases hi : i < len
      · obtain ⟨cs, hcs, z, htr⟩ := hcells i hi
        obtain ⟨y0, hcs0, hwf⟩ := trod_val htr
        obtain ⟨_, hll, hcc⟩ := World.cells?_some hcs
        refine ⟨y0, fun _ => ⟨hwf, fun j hj => ?_⟩⟩
        have h4 := hcc j hj
        rw [add_plain, add_plain] at h4
        rw [h4, hcs0]
        match j, hj with
        | 0, _ => rfl
        | 1, _ => rfl
        | 2, _ => rfl
      · exact ⟨⟨0, 0, 0⟩, fun h => absurd h hi⟩
    obtain ⟨v, hv⟩ := Classical.axiomOfChoice each
    refine ⟨_, len, cap, v, rfl, ⟨hle, hcm, fun _ => ⟨b, off, rfl, fun i hi => ?_⟩, (fun h => by cases h), fun i hi => (hv i hi).1⟩, hw⟩
    have h5 := (hv (i / 3) (by omega)).2 (i % 3) (by omega)
    rw [show off + i / 3 * 3 + i % 3 = off + i by omega] at h5
    exact h5
end Go.Proofs.Ytpeekldngelkkaa
