/- How data that came in are read, level by level. No condition. -/
import Derived.Test.YtlnkdnmeikpckaaRow
namespace Go.Proofs.Ytlnkdnmeikpckaa
open Go.ChangeShapes Go.WideShapes Go.ChangeAt Go.RowKit Go.Joins

/-- Cells that read at a type; the weights are among those of the whole. -/
def Rd {H : Type} (enc : TypeId × Value → H) (W : World) (t : TypeId) (cs : List Value) (ws : List Nat) : Prop :=
  ∃ (k : Nat) (y : DataW H × List MemPlace), DataW.trod enc Try.prog W 0 (fun _ => true) true k t cs = some y ∧ ∀ q ∈ y.1.weights Try.prog t, q ∈ ws

section
variable {H : Type} {enc : TypeId × Value → H} {W : World} {ws : List Nat} {cs : List Value}

theorem rd_int {t : TypeId} {k : IntKind} (ht : Try.prog.underlying t = some (.int k)) (h : Rd enc W t cs ws) : ∃ n, cs = [.int k n] ∧ (Lit.int k n).wf = true := by
  obtain ⟨f, y, h, _⟩ := h
  obtain ⟨n, e, _, hw⟩ := DataW.trod_int ht h
  exact ⟨n, e, hw⟩

theorem rd_bool {t : TypeId} (ht : Try.prog.underlying t = some .bool) (h : Rd enc W t cs ws) : ∃ b, cs = [.bool b] := by
  obtain ⟨f, y, h, _⟩ := h
  obtain ⟨b, e, _⟩ := DataW.trod_bool ht h
  exact ⟨b, e⟩

theorem rd_string {t : TypeId} (ht : Try.prog.underlying t = some .string) (h : Rd enc W t cs ws) : ∃ s : ByteArray, cs = [.string s] ∧ s.size ≤ maxLen := by
  obtain ⟨f, y, h, _⟩ := h
  obtain ⟨s, e, _, hs⟩ := DataW.trod_string ht h
  exact ⟨s, e, hs⟩

theorem rd_slice_shape {t e : TypeId} (ht : Try.prog.underlying t = some (.slice e)) (h : Rd enc W t cs ws) : ∃ A n c, cs = [.slice A n c] := by
  obtain ⟨f, y, h, _⟩ := h
  rcases DataW.trod_slice ht h with ⟨h0, _⟩ | ⟨ad, len, cap, _, _, _, _, h0, _⟩
  · exact ⟨none, 0, 0, h0⟩
  · exact ⟨some ad, len, cap, h0⟩

theorem weights_all_mem {e : TypeId} : ∀ {l : List (DataW H)} {d : DataW H}, d ∈ l → ∀ q ∈ d.weights Try.prog e, q ∈ DataW.weightsAll Try.prog e l
  | a :: r, d, hd, q, hq => by
    unfold DataW.weightsAll
    rw [List.mem_append]
    rcases List.mem_cons.1 hd with rfl | hd
    · exact .inl hq
    · exact .inr (weights_all_mem hd q hq)

/-- A slice that came in: its elements read. -/
structure RdSl (enc : TypeId × Value → H) (W : World) (e sz bytes : Nat) (A : Option Addr) (n c : Nat) (ws : List Nat) : Prop where
  le : n ≤ c
  cm : c ≤ maxLen
  z : A = none → c = 0
  wt : (∀ q ∈ ws, q ≤ reachBytes) → n * bytes ≤ 140737488351232
  el : 0 < n → ∃ b o, A = some ⟨b, o, none⟩ ∧ ∀ i, i < n → ∃ cs : List Value, cs.length = sz ∧ (∀ j, j < sz → W.cell? ⟨b, o + i * sz + j, none⟩ = cs[j]?) ∧ Rd enc W e cs ws

theorem rd_slice {t e sz bytes : Nat} {A : Option Addr} {n c : Nat} (ht : Try.prog.underlying t = some (.slice e)) (hsz : Try.prog.cellsOf e = sz) (hby : Try.prog.bytesOf e = bytes) (h0 : 0 < sz)
    (h : Rd enc W t [.slice A n c] ws) : RdSl enc W e sz bytes A n c ws := by
  obtain ⟨f, y, h, hws⟩ := h
  subst hsz hby
  rcases DataW.trod_slice ht h with ⟨h1, _⟩ | ⟨ad, len, cap, elems, rest, k, _, h1, hy, _, hle, hm, hlen, hel, _, _⟩
  · simp only [List.cons.injEq, and_true] at h1
    cases h1
    exact ⟨Nat.le_refl _, Nat.zero_le _, fun _ => rfl, fun _ => by omega, fun h => absurd h (by omega)⟩
  · simp only [List.cons.injEq, and_true] at h1
    cases h1
    have hyw : y.1.weights Try.prog t = ((elems.map (·.1)).length + (rest.map (·.1)).length) * Try.prog.bytesOf e :: (DataW.weightsAll Try.prog e (elems.map (·.1)) ++ DataW.weightsAll Try.prog e (rest.map (·.1))) := by
      rw [hy]; simp [DataW.weights, ht]
    refine ⟨hle, hm, (fun h => by cases h), fun hw => ?_, fun hpos => ?_⟩
    · have h2 := hw _ (hws _ (by rw [hyw]; exact List.mem_cons_self ..))
      simp only [List.length_map, hlen, reachBytes] at h2
      rw [Nat.add_mul] at h2
      omega
    · have hcells : ∀ i, i < n → ∃ cs, W.cells? 0 (ad.add (i * Try.prog.cellsOf e)) (Try.prog.cellsOf e) = some cs ∧ ∃ z, z ∈ elems ∧ DataW.trod enc Try.prog W 0 (fun _ => true) true k e cs = some z := fun i hi => by
        have hz := hel i hi
        have hzi : i < elems.length := by omega
        rw [List.getElem?_eq_getElem hzi, Option.bind_eq_some_iff] at hz
        obtain ⟨cs, hcs, htr⟩ := hz
        exact ⟨cs, hcs, _, List.getElem_mem hzi, htr⟩
      obtain ⟨b, off, spot⟩ := ad
      have hspot : spot = Option.none := by
        obtain ⟨cs, hcs, _⟩ := hcells 0 hpos
        obtain ⟨_, hl, hcc⟩ := World.cells?_some hcs
        have hc0 := hcc 0 h0
        have h3 : 0 < cs.length := by omega
        rw [List.getElem?_eq_getElem h3] at hc0
        simpa [Addr.add] using World.cell?_spot hc0
      subst hspot
      refine ⟨b, off, rfl, fun i hi => ?_⟩
      obtain ⟨cs, hcs, z, hz, htr⟩ := hcells i hi
      obtain ⟨_, hl, hcc⟩ := World.cells?_some hcs
      refine ⟨cs, hl, fun j hj => ?_, k, z, htr, fun q hq => hws q ?_⟩
      · have h4 := hcc j hj
        rw [add_plain, add_plain] at h4
        exact h4
      · rw [hyw]
        exact List.mem_cons_of_mem _ (List.mem_append_left _ (weights_all_mem (List.mem_map.2 ⟨z, hz, rfl⟩) q hq))

/-- A struct's part. -/
theorem rd_part {t : TypeId} {fs : Array Field} {x : DataW H × List MemPlace} {xs : List (DataW H × List MemPlace)} (ht : Try.prog.underlying t = some (.struct fs)) (hx : x = (.agg (xs.map (·.1)), xs.flatMap (·.2)))
    (hws : ∀ q ∈ x.1.weights Try.prog t, q ∈ ws) {k i : Nat} {f : Field} (hf : fs[i]? = some f) {cs : List Value} {y : DataW H × List MemPlace} (hy : xs[i]? = some y) (h : DataW.trod enc Try.prog W 0 (fun _ => true) true k f.type cs = some y) : Rd enc W f.type cs ws := by
  refine ⟨k, y, h, fun q hq => hws q ?_⟩
  have e : x.1.weights Try.prog t = DataW.weightsEach Try.prog (fs.toList.map (·.type)) (xs.map (·.1)) := by
    rw [hx]; simp [DataW.weights, ht]
  rw [e]
  exact DataW.weights_mem_each (j := i) (t := f.type) (d := y.1) (by simp [hf]) (by simp [hy]) q hq

theorem rd_struct {t : TypeId} {fs : Array Field} {n : Nat} (ht : Try.prog.underlying t = some (.struct fs)) (hn : Try.prog.cellsOf t = n) (h : Rd enc W t cs ws) :
    cs.length = n ∧ ∀ (i : Nat) (f : Field), fs[i]? = some f → Rd enc W f.type ((cs.drop f.offset).take (Try.prog.cellsOf f.type)) ws := by
  subst hn
  obtain ⟨k, x, h, hws⟩ := h
  obtain ⟨xs, m, _, hx, hl, hxl, hf⟩ := DataW.trod_struct ht h
  refine ⟨hl, fun i f hi => ?_⟩
  have hlt : i < xs.length := by rw [hxl]; exact (Array.getElem?_eq_some_iff.1 hi).1
  exact rd_part ht hx hws hi (List.getElem?_eq_getElem hlt) ((hf i f hi).trans (List.getElem?_eq_getElem hlt))

theorem rd_params {ts2 : List TypeId} {gs : List (DataW H)} : ∀ {ts : List TypeId} {vs : List Value} {ds : List (DataW H)} {ps : List MemPlace}, DataW.TrodAll enc Try.prog W 0 (fun _ => true) true ts vs ds ps →
    ∀ (j : Nat) (t : TypeId) (v : Value), ts[j]? = some t → vs[j]? = some v → Rd enc W t v.cells.toList (DataW.weightsEach Try.prog (ts ++ ts2) (ds ++ gs))
  | [], vs, ds, ps, h, j, t, v, ht, _ => by simp at ht
  | t0 :: ts, vs, ds, ps, h, j, t, v, ht, hv => by
    obtain ⟨v0, vs0, d0, ds0, p0, q0, rfl, rfl, rfl, h0, r0⟩ := trodAll_cons h
    cases j with
    | zero =>
      simp only [List.getElem?_cons_zero, Option.some.injEq] at ht hv
      subst ht hv
      obtain ⟨k, hk⟩ := h0
      exact ⟨k, _, hk, fun q hq => by
        rw [List.cons_append, List.cons_append, DataW.weightsEach]
        exact List.mem_append_left _ hq⟩
    | succ j =>
      simp only [List.getElem?_cons_succ] at ht hv
      obtain ⟨k, y, h1, h2⟩ := rd_params (ts2 := ts2) (gs := gs) r0 j t v ht hv
      exact ⟨k, y, h1, fun q hq => by
        rw [List.cons_append, List.cons_append, DataW.weightsEach]
        exact List.mem_append_right _ (h2 q hq)⟩

theorem rd_agg {t : TypeId} {fs : Array Field} {v : Value} {cs : Array Value} {l : List Value} (_ht : Try.prog.underlying t = some (.struct fs)) (hv : v = .agg cs) (h : v.cells.toList = l) : v = .agg l.toArray := by
  subst hv
  simp only [Value.cells] at h
  rw [← h]
end
end Go.Proofs.Ytlnkdnmeikpckaa
