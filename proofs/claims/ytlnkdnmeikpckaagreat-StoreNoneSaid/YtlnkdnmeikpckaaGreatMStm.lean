/- What the proofs lean on, part 13 of St. No condition. -/
import Derived.Test.YtlnkdnmeikpckaaGreatMSta
import Derived.Test.YtlnkdnmeikpckaaGreatMSte
import Derived.Test.YtlnkdnmeikpckaaGreatMStg
import Derived.Test.YtlnkdnmeikpckaaGreatMSth
import Derived.Test.YtlnkdnmeikpckaaGreatMStj
import Derived.Test.YtlnkdnmeikpckaaGreatMStl
namespace Go.Proofs.YtlnkdnmeikpckaaGreat
open Go.ChangeShapes Go.WideShapes Go.ChangeAt Go.RowKit Go.Joins
set_option maxRecDepth 100000
/-- Cells that read at a type; the weights are among those of the whole. -/
def Rd {H : Type} (enc : TypeId × Value → H) (W : World) (t : TypeId) (cs : List Value) (ws : List Nat) : Prop :=
  ∃ (k : Nat) (y : DataW H × List MemPlace), DataW.trod enc Tryz.prog W 0 (fun _ => true) true k t cs = some y ∧ ∀ q ∈ y.1.weights Tryz.prog t, q ∈ ws
section
variable {H : Type} {enc : TypeId × Value → H} {W : World} {ws : List Nat} {cs : List Value}
theorem rd_int {t : TypeId} {k : IntKind} (ht : Tryz.prog.underlying t = some (.int k)) (h : Rd enc W t cs ws) : ∃ n, cs = [.int k n] ∧ (Lit.int k n).wf = true := by
  obtain ⟨f, y, h, _⟩ := h
  obtain ⟨n, e, _, hw⟩ := DataW.trod_int ht h
  exact ⟨n, e, hw⟩
theorem rd_bool {t : TypeId} (ht : Tryz.prog.underlying t = some .bool) (h : Rd enc W t cs ws) : ∃ b, cs = [.bool b] := by
  obtain ⟨f, y, h, _⟩ := h
  obtain ⟨b, e, _⟩ := DataW.trod_bool ht h
  exact ⟨b, e⟩
theorem rd_string {t : TypeId} (ht : Tryz.prog.underlying t = some .string) (h : Rd enc W t cs ws) : ∃ s : ByteArray, cs = [.string s] ∧ s.size ≤ maxLen := by
  obtain ⟨f, y, h, _⟩ := h
  obtain ⟨s, e, _, hs⟩ := DataW.trod_string ht h
  exact ⟨s, e, hs⟩
theorem rd_slice_shape {t e : TypeId} (ht : Tryz.prog.underlying t = some (.slice e)) (h : Rd enc W t cs ws) : ∃ A n c, cs = [.slice A n c] := by
  obtain ⟨f, y, h, _⟩ := h
  rcases DataW.trod_slice ht h with ⟨h0, _⟩ | ⟨ad, len, cap, _, _, _, _, h0, _⟩
  · exact ⟨none, 0, 0, h0⟩
  · exact ⟨some ad, len, cap, h0⟩
theorem weights_all_mem {e : TypeId} : ∀ {l : List (DataW H)} {d : DataW H}, d ∈ l → ∀ q ∈ d.weights Tryz.prog e, q ∈ DataW.weightsAll Tryz.prog e l
  | a :: r, d, hd, q, hq => by
    unfold DataW.weightsAll
    rw [List.mem_append]
    rcases List.mem_cons.1 hd with rfl | hd
    · exact .inl hq
    · exact .inr (weights_all_mem hd q hq)
/-- A slice that came in: its elements read. -/
structure RdSl (enc : TypeId × Value → H) (W : World) (e sz bytes : Nat) (A : Option Addr) (n c : Nat) (ws : List Nat) : Prop where
  le : n ≤ c
  cm : c ≤ maxLen
  z : A = none → c = 0
  wt : (∀ q ∈ ws, q ≤ reachBytes) → n * bytes ≤ 140737488351232
  el : 0 < n → ∃ b o, A = some ⟨b, o, none⟩ ∧ ∀ i, i < n → ∃ cs : List Value, cs.length = sz ∧ (∀ j, j < sz → W.cell? ⟨b, o + i * sz + j, none⟩ = cs[j]?) ∧ Rd enc W e cs ws
theorem rd_slice {t e sz bytes : Nat} {A : Option Addr} {n c : Nat} (ht : Tryz.prog.underlying t = some (.slice e)) (hsz : Tryz.prog.cellsOf e = sz) (hby : Tryz.prog.bytesOf e = bytes) (h0 : 0 < sz)
    (h : Rd enc W t [.slice A n c] ws) : RdSl enc W e sz bytes A n c ws := by
  obtain ⟨f, y, h, hws⟩ := h
  subst hsz hby
  rcases DataW.trod_slice ht h with ⟨h1, _⟩ | ⟨ad, len, cap, elems, rest, k, _, h1, hy, _, hle, hm, hlen, hel, _, _⟩
  · simp only [List.cons.injEq, and_true] at h1
    cases h1
    exact ⟨Nat.le_refl _, Nat.zero_le _, fun _ => rfl, fun _ => by omega, fun h => absurd h (by omega)⟩
  · simp only [List.cons.injEq, and_true] at h1
    cases h1
    have hyw : y.1.weights Tryz.prog t = ((elems.map (·.1)).length + (rest.map (·.1)).length) * Tryz.prog.bytesOf e :: (DataW.weightsAll Tryz.prog e (elems.map (·.1)) ++ DataW.weightsAll Tryz.prog e (rest.map (·.1))) := by
      rw [hy]; simp [DataW.weights, ht]
    refine ⟨hle, hm, (fun h => by cases h), fun hw => ?_, fun hpos => ?_⟩
    · have h2 := hw _ (hws _ (by rw [hyw]; exact List.mem_cons_self ..))
      simp only [List.length_map, hlen, reachBytes] at h2
      rw [Nat.add_mul] at h2
      omega
    · have hcells : ∀ i, i < n → ∃ cs, W.cells? 0 (ad.add (i * Tryz.prog.cellsOf e)) (Tryz.prog.cellsOf e) = some cs ∧ ∃ z, z ∈ elems ∧ DataW.trod enc Tryz.prog W 0 (fun _ => true) true k e cs = some z := fun i hi => by
        have hz := hel i hi
        have hzi : i < elems.length := by omega
        rw [List.getElem?_eq_getElem hzi, Option.bind_eq_some_iff] at hz
        obtain ⟨cs, hcs, htr⟩ := hz
        exact ⟨cs, hcs, _, List.getElem_mem hzi, htr⟩
      obtain ⟨b, off, spot⟩ := ad
      have hspot : spot = Option.none := by
        obtain ⟨cs, hcs, _⟩ := hcells 0 hpos
        obtain ⟨_, hl, hcc⟩ := World.cells?_some hcs
        have hc0 := hcc 0 h0
        have h3 : 0 < cs.length := by omega
        rw [List.getElem?_eq_getElem h3] at hc0
        simpa [Addr.add] using World.cell?_spot hc0
      subst hspot
      refine ⟨b, off, rfl, fun i hi => ?_⟩
      obtain ⟨cs, hcs, z, hz, htr⟩ := hcells i hi
      obtain ⟨_, hl, hcc⟩ := World.cells?_some hcs
      refine ⟨cs, hl, fun j hj => ?_, k, z, htr, fun q hq => hws q ?_⟩
      · have h4 := hcc j hj
        rw [add_plain, add_plain] at h4
        exact h4
      · rw [hyw]
        exact List.mem_cons_of_mem _ (List.mem_append_left _ (weights_all_mem (List.mem_map.2 ⟨z, hz, rfl⟩) q hq))
/-- A struct's part. -/
theorem rd_part {t : TypeId} {fs : Array Field} {x : DataW H × List MemPlace} {xs : List (DataW H × List MemPlace)} (ht : Tryz.prog.underlying t = some (.struct fs)) (hx : x = (.agg (xs.map (·.1)), xs.flatMap (·.2)))
    (hws : ∀ q ∈ x.1.weights Tryz.prog t, q ∈ ws) {k i : Nat} {f : Field} (hf : fs[i]? = some f) {cs : List Value} {y : DataW H × List MemPlace} (hy : xs[i]? = some y) (h : DataW.trod enc Tryz.prog W 0 (fun _ => true) true k f.type cs = some y) : Rd enc W f.type cs ws := by
  refine ⟨k, y, h, fun q hq => hws q ?_⟩
  have e : x.1.weights Tryz.prog t = DataW.weightsEach Tryz.prog (fs.toList.map (·.type)) (xs.map (·.1)) := by
    rw [hx]; simp [DataW.weights, ht]
  rw [e]
  exact DataW.weights_mem_each (j := i) (t := f.type) (d := y.1) (by simp [hf]) (by simp [hy]) q hq
theorem rd_struct {t : TypeId} {fs : Array Field} {n : Nat} (ht : Tryz.prog.underlying t = some (.struct fs)) (hn : Tryz.prog.cellsOf t = n) (h : Rd enc W t cs ws) :
    cs.length = n ∧ ∀ (i : Nat) (f : Field), fs[i]? = some f → Rd enc W f.type ((cs.drop f.offset).take (Tryz.prog.cellsOf f.type)) ws := by
  subst hn
  obtain ⟨k, x, h, hws⟩ := h
  obtain ⟨xs, m, _, hx, hl, hxl, hf⟩ := DataW.trod_struct ht h
  refine ⟨hl, fun i f hi => ?_⟩
  have hlt : i < xs.length := by rw [hxl]; exact (Array.getElem?_eq_some_iff.1 hi).1
  exact rd_part ht hx hws hi (List.getElem?_eq_getElem hlt) ((hf i f hi).trans (List.getElem?_eq_getElem hlt))
theorem rd_params {ts2 : List TypeId} {gs : List (DataW H)} : ∀ {ts : List TypeId} {vs : List Value} {ds : List (DataW H)} {ps : List MemPlace}, DataW.TrodAll enc Tryz.prog W 0 (fun _ => true) true ts vs ds ps →
    ∀ (j : Nat) (t : TypeId) (v : Value), ts[j]? = some t → vs[j]? = some v → Rd enc W t v.cells.toList (DataW.weightsEach Tryz.prog (ts ++ ts2) (ds ++ gs))
  | [], vs, ds, ps, h, j, t, v, ht, _ => by simp at ht
  | t0 :: ts, vs, ds, ps, h, j, t, v, ht, hv => by
    obtain ⟨v0, vs0, d0, ds0, p0, q0, rfl, rfl, rfl, h0, r0⟩ := trodAll_cons h
    cases j with
    | zero =>
      simp only [List.getElem?_cons_zero, Option.some.injEq] at ht hv
      subst ht hv
      obtain ⟨k, hk⟩ := h0
      exact ⟨k, _, hk, fun q hq => by
        rw [List.cons_append, List.cons_append, DataW.weightsEach]
        exact List.mem_append_left _ hq⟩
    | succ j =>
      simp only [List.getElem?_cons_succ] at ht hv
      obtain ⟨k, y, h1, h2⟩ := rd_params (ts2 := ts2) (gs := gs) r0 j t v ht hv
      exact ⟨k, y, h1, fun q hq => by
        rw [List.cons_append, List.cons_append, DataW.weightsEach]
        exact List.mem_append_right _ (h2 q hq)⟩
end
end Go.Proofs.YtlnkdnmeikpckaaGreat
namespace Go.Proofs.YtlnkdnmeikpckaaGreat
open Go.ChangeShapes Go.WideShapes Go.ChangeAt Go.RowKit Go.Joins
set_option maxRecDepth 100000
set_option maxHeartbeats 1600000 in
set_option maxRecDepth 100000 in
theorem dec_FT {H : Type} {enc : TypeId × Value → H} {W : World} {ws : List Nat} {cs : List Value} (h : Rd enc W 38 cs ws) : ∃ (p_A : Option Addr) (p_n p_c : Nat) (r_A : Option Addr) (r_n r_c : Nat), cs = [.slice p_A p_n p_c, .slice r_A r_n r_c] ∧ Rd enc W 36 [.slice p_A p_n p_c] ws ∧ Rd enc W 36 [.slice r_A r_n r_c] ws := by
  obtain ⟨hl, hf⟩ := rd_struct (n := 2) Tryz.underlying38 (by kernel_rfl) h
  match cs, hl with
  | [k0, k1], _ =>
    have g0 : Rd enc W 36 [k0] ws := by
      have h : Rd enc W 36 (([k0, k1].drop 0).take (Tryz.prog.cellsOf 36)) ws := hf 0 _ rfl
      rw [show Tryz.prog.cellsOf 36 = 1 from by kernel_rfl] at h
      exact h
    obtain ⟨p_A, p_n, p_c, e0⟩ := rd_slice_shape Tryz.underlying36 g0
    rw [e0] at g0
    have g1 : Rd enc W 36 [k1] ws := by
      have h : Rd enc W 36 (([k0, k1].drop 1).take (Tryz.prog.cellsOf 36)) ws := hf 1 _ rfl
      rw [show Tryz.prog.cellsOf 36 = 1 from by kernel_rfl] at h
      exact h
    obtain ⟨r_A, r_n, r_c, e1⟩ := rd_slice_shape Tryz.underlying36 g1
    rw [e1] at g1
    simp only [List.cons.injEq, and_true] at e0 e1
    refine ⟨p_A, p_n, p_c, r_A, r_n, r_c, ?_, g0, g1⟩
    simp [e0, e1]
set_option maxHeartbeats 1600000 in
set_option maxRecDepth 100000 in
theorem dec_FUNC {H : Type} {enc : TypeId × Value → H} {W : World} {ws : List Nat} {cs : List Value} (h : Rd enc W 51 cs ws) : ∃ (t_p_A : Option Addr) (t_p_n t_p_c : Nat) (t_r_A : Option Addr) (t_r_n t_r_c : Nat) (h : Bool) (s : ByteArray) (i : Int) (b : Int), cs = [.slice t_p_A t_p_n t_p_c, .slice t_r_A t_r_n t_r_c, .bool h, .string s, .int .i64 i, .int .i64 b] ∧ Rd enc W 36 [.slice t_p_A t_p_n t_p_c] ws ∧ Rd enc W 36 [.slice t_r_A t_r_n t_r_c] ws ∧ s.size ≤ maxLen ∧ (-9223372036854775808 ≤ i ∧ i ≤ 9223372036854775807) ∧ (-9223372036854775808 ≤ b ∧ b ≤ 9223372036854775807) := by
  obtain ⟨hl, hf⟩ := rd_struct (n := 6) Tryz.underlying51 (by kernel_rfl) h
  match cs, hl with
  | [k0, k1, k2, k3, k4, k5], _ =>
    have g0 : Rd enc W 38 [k0, k1] ws := by
      have h : Rd enc W 38 (([k0, k1, k2, k3, k4, k5].drop 0).take (Tryz.prog.cellsOf 38)) ws := hf 0 _ rfl
      rw [show Tryz.prog.cellsOf 38 = 2 from by kernel_rfl] at h
      exact h
    obtain ⟨t_p_A, t_p_n, t_p_c, t_r_A, t_r_n, t_r_c, e0, p0_0, p0_1⟩ := dec_FT g0
    have g1 : Rd enc W 4 [k2] ws := by
      have h : Rd enc W 4 (([k0, k1, k2, k3, k4, k5].drop 2).take (Tryz.prog.cellsOf 4)) ws := hf 1 _ rfl
      rw [show Tryz.prog.cellsOf 4 = 1 from by kernel_rfl] at h
      exact h
    obtain ⟨h, e1⟩ := rd_bool Tryz.underlying4 g1
    have g2 : Rd enc W 9 [k3] ws := by
      have h : Rd enc W 9 (([k0, k1, k2, k3, k4, k5].drop 3).take (Tryz.prog.cellsOf 9)) ws := hf 2 _ rfl
      rw [show Tryz.prog.cellsOf 9 = 1 from by kernel_rfl] at h
      exact h
    obtain ⟨s, e2, p2⟩ := rd_string Tryz.underlying9 g2
    have g3 : Rd enc W 3 [k4] ws := by
      have h : Rd enc W 3 (([k0, k1, k2, k3, k4, k5].drop 4).take (Tryz.prog.cellsOf 3)) ws := hf 3 _ rfl
      rw [show Tryz.prog.cellsOf 3 = 1 from by kernel_rfl] at h
      exact h
    obtain ⟨i, e3, p3⟩ := rd_int Tryz.underlying3 g3
    have g4 : Rd enc W 3 [k5] ws := by
      have h : Rd enc W 3 (([k0, k1, k2, k3, k4, k5].drop 5).take (Tryz.prog.cellsOf 3)) ws := hf 4 _ rfl
      rw [show Tryz.prog.cellsOf 3 = 1 from by kernel_rfl] at h
      exact h
    obtain ⟨b, e4, p4⟩ := rd_int Tryz.underlying3 g4
    simp only [List.cons.injEq, and_true] at e0 e1 e2 e3 e4
    refine ⟨t_p_A, t_p_n, t_p_c, t_r_A, t_r_n, t_r_c, h, s, i, b, ?_, p0_0, p0_1, p2, bounds_i64 p3, bounds_i64 p4⟩
    simp [e0, e1, e2, e3, e4]
set_option maxHeartbeats 1600000 in
set_option maxRecDepth 100000 in
theorem dec_LIM {H : Type} {enc : TypeId × Value → H} {W : World} {ws : List Nat} {cs : List Value} (h : Rd enc W 29 cs ws) : ∃ (mn : Int) (mx : Int) (bd : Bool), cs = [.int .u32 mn, .int .u32 mx, .bool bd] ∧ (0 ≤ mn ∧ mn ≤ 4294967295) ∧ (0 ≤ mx ∧ mx ≤ 4294967295) := by
  obtain ⟨hl, hf⟩ := rd_struct (n := 3) Tryz.underlying29 (by kernel_rfl) h
  match cs, hl with
  | [k0, k1, k2], _ =>
    have g0 : Rd enc W 26 [k0] ws := by
      have h : Rd enc W 26 (([k0, k1, k2].drop 0).take (Tryz.prog.cellsOf 26)) ws := hf 0 _ rfl
      rw [show Tryz.prog.cellsOf 26 = 1 from by kernel_rfl] at h
      exact h
    obtain ⟨mn, e0, p0⟩ := rd_int Tryz.underlying26 g0
    have g1 : Rd enc W 26 [k1] ws := by
      have h : Rd enc W 26 (([k0, k1, k2].drop 1).take (Tryz.prog.cellsOf 26)) ws := hf 1 _ rfl
      rw [show Tryz.prog.cellsOf 26 = 1 from by kernel_rfl] at h
      exact h
    obtain ⟨mx, e1, p1⟩ := rd_int Tryz.underlying26 g1
    have g2 : Rd enc W 4 [k2] ws := by
      have h : Rd enc W 4 (([k0, k1, k2].drop 2).take (Tryz.prog.cellsOf 4)) ws := hf 2 _ rfl
      rw [show Tryz.prog.cellsOf 4 = 1 from by kernel_rfl] at h
      exact h
    obtain ⟨bd, e2⟩ := rd_bool Tryz.underlying4 g2
    simp only [List.cons.injEq, and_true] at e0 e1 e2
    refine ⟨mn, mx, bd, ?_, bounds_u32 p0, bounds_u32 p1⟩
    simp [e0, e1, e2]
set_option maxHeartbeats 1600000 in
set_option maxRecDepth 100000 in
theorem dec_TT {H : Type} {enc : TypeId × Value → H} {W : World} {ws : List Nat} {cs : List Value} (h : Rd enc W 31 cs ws) : ∃ (el : Int) (l_mn : Int) (l_mx : Int) (l_bd : Bool), cs = [.int .u8 el, .int .u32 l_mn, .int .u32 l_mx, .bool l_bd] ∧ (0 ≤ el ∧ el ≤ 255) ∧ (0 ≤ l_mn ∧ l_mn ≤ 4294967295) ∧ (0 ≤ l_mx ∧ l_mx ≤ 4294967295) := by
  obtain ⟨hl, hf⟩ := rd_struct (n := 4) Tryz.underlying31 (by kernel_rfl) h
  match cs, hl with
  | [k0, k1, k2, k3], _ =>
    have g0 : Rd enc W 27 [k0] ws := by
      have h : Rd enc W 27 (([k0, k1, k2, k3].drop 0).take (Tryz.prog.cellsOf 27)) ws := hf 0 _ rfl
      rw [show Tryz.prog.cellsOf 27 = 1 from by kernel_rfl] at h
      exact h
    obtain ⟨el, e0, p0⟩ := rd_int Tryz.underlying27 g0
    have g1 : Rd enc W 29 [k1, k2, k3] ws := by
      have h : Rd enc W 29 (([k0, k1, k2, k3].drop 1).take (Tryz.prog.cellsOf 29)) ws := hf 1 _ rfl
      rw [show Tryz.prog.cellsOf 29 = 3 from by kernel_rfl] at h
      exact h
    obtain ⟨l_mn, l_mx, l_bd, e1, p1_0, p1_1⟩ := dec_LIM g1
    simp only [List.cons.injEq, and_true] at e0 e1
    refine ⟨el, l_mn, l_mx, l_bd, ?_, bounds_u8 p0, p1_0, p1_1⟩
    simp [e0, e1]
set_option maxHeartbeats 1600000 in
set_option maxRecDepth 100000 in
theorem dec_GT {H : Type} {enc : TypeId × Value → H} {W : World} {ws : List Nat} {cs : List Value} (h : Rd enc W 33 cs ws) : ∃ (v : Int) (m : Bool), cs = [.int .u8 v, .bool m] ∧ (0 ≤ v ∧ v ≤ 255) := by
  obtain ⟨hl, hf⟩ := rd_struct (n := 2) Tryz.underlying33 (by kernel_rfl) h
  match cs, hl with
  | [k0, k1], _ =>
    have g0 : Rd enc W 27 [k0] ws := by
      have h : Rd enc W 27 (([k0, k1].drop 0).take (Tryz.prog.cellsOf 27)) ws := hf 0 _ rfl
      rw [show Tryz.prog.cellsOf 27 = 1 from by kernel_rfl] at h
      exact h
    obtain ⟨v, e0, p0⟩ := rd_int Tryz.underlying27 g0
    have g1 : Rd enc W 4 [k1] ws := by
      have h : Rd enc W 4 (([k0, k1].drop 1).take (Tryz.prog.cellsOf 4)) ws := hf 1 _ rfl
      rw [show Tryz.prog.cellsOf 4 = 1 from by kernel_rfl] at h
      exact h
    obtain ⟨m, e1⟩ := rd_bool Tryz.underlying4 g1
    simp only [List.cons.injEq, and_true] at e0 e1
    refine ⟨v, m, ?_, bounds_u8 p0⟩
    simp [e0, e1]
set_option maxHeartbeats 1600000 in
set_option maxRecDepth 100000 in
theorem dec_VAL {H : Type} {enc : TypeId × Value → H} {W : World} {ws : List Nat} {cs : List Value} (h : Rd enc W 65 cs ws) : ∃ (t : Int) (lo : Int) (hi : Int), cs = [.int .u8 t, .int .u64 lo, .int .u64 hi] ∧ (0 ≤ t ∧ t ≤ 255) ∧ (0 ≤ lo ∧ lo ≤ 18446744073709551615) ∧ (0 ≤ hi ∧ hi ≤ 18446744073709551615) := by
  obtain ⟨hl, hf⟩ := rd_struct (n := 3) Tryz.underlying65 (by kernel_rfl) h
  match cs, hl with
  | [k0, k1, k2], _ =>
    have g0 : Rd enc W 27 [k0] ws := by
      have h : Rd enc W 27 (([k0, k1, k2].drop 0).take (Tryz.prog.cellsOf 27)) ws := hf 0 _ rfl
      rw [show Tryz.prog.cellsOf 27 = 1 from by kernel_rfl] at h
      exact h
    obtain ⟨t, e0, p0⟩ := rd_int Tryz.underlying27 g0
    have g1 : Rd enc W 63 [k1] ws := by
      have h : Rd enc W 63 (([k0, k1, k2].drop 1).take (Tryz.prog.cellsOf 63)) ws := hf 1 _ rfl
      rw [show Tryz.prog.cellsOf 63 = 1 from by kernel_rfl] at h
      exact h
    obtain ⟨lo, e1, p1⟩ := rd_int Tryz.underlying63 g1
    have g2 : Rd enc W 63 [k2] ws := by
      have h : Rd enc W 63 (([k0, k1, k2].drop 2).take (Tryz.prog.cellsOf 63)) ws := hf 2 _ rfl
      rw [show Tryz.prog.cellsOf 63 = 1 from by kernel_rfl] at h
      exact h
    obtain ⟨hi, e2, p2⟩ := rd_int Tryz.underlying63 g2
    simp only [List.cons.injEq, and_true] at e0 e1 e2
    refine ⟨t, lo, hi, ?_, bounds_u8 p0, bounds_u64 p1, bounds_u64 p2⟩
    simp [e0, e1, e2]
set_option maxHeartbeats 1600000 in
set_option maxRecDepth 100000 in
theorem dec_INST {H : Type} {enc : TypeId × Value → H} {W : World} {ws : List Nat} {cs : List Value} (h : Rd enc W 77 cs ws) : ∃ (ty_A : Option Addr) (ty_n ty_c : Nat) (x0_A : Option Addr) (x0_n x0_c : Nat) (x1_A : Option Addr) (x1_n x1_c : Nat) (x2_A : Option Addr) (x2_n x2_c : Nat) (x3_A : Option Addr) (x3_n x3_c : Nat) (x4_A : Option Addr) (x4_n x4_c : Nat) (x5_A : Option Addr) (x5_n x5_c : Nat) (co_A : Option Addr) (co_n co_c : Nat) (ex_A : Option Addr) (ex_n ex_c : Nat), cs = [.slice ty_A ty_n ty_c, .slice x0_A x0_n x0_c, .slice x1_A x1_n x1_c, .slice x2_A x2_n x2_c, .slice x3_A x3_n x3_c, .slice x4_A x4_n x4_c, .slice x5_A x5_n x5_c, .slice co_A co_n co_c, .slice ex_A ex_n ex_c] ∧ Rd enc W 72 [.slice ty_A ty_n ty_c] ws ∧ Rd enc W 73 [.slice x0_A x0_n x0_c] ws ∧ Rd enc W 73 [.slice x1_A x1_n x1_c] ws ∧ Rd enc W 73 [.slice x2_A x2_n x2_c] ws ∧ Rd enc W 73 [.slice x3_A x3_n x3_c] ws ∧ Rd enc W 73 [.slice x4_A x4_n x4_c] ws ∧ Rd enc W 73 [.slice x5_A x5_n x5_c] ws ∧ Rd enc W 74 [.slice co_A co_n co_c] ws ∧ Rd enc W 75 [.slice ex_A ex_n ex_c] ws := by
  obtain ⟨hl, hf⟩ := rd_struct (n := 9) Tryz.underlying77 (by kernel_rfl) h
  match cs, hl with
  | [k0, k1, k2, k3, k4, k5, k6, k7, k8], _ =>
    have g0 : Rd enc W 72 [k0] ws := by
      have h : Rd enc W 72 (([k0, k1, k2, k3, k4, k5, k6, k7, k8].drop 0).take (Tryz.prog.cellsOf 72)) ws := hf 0 _ rfl
      rw [show Tryz.prog.cellsOf 72 = 1 from by kernel_rfl] at h
      exact h
    obtain ⟨ty_A, ty_n, ty_c, e0⟩ := rd_slice_shape Tryz.underlying72 g0
    rw [e0] at g0
    have g1 : Rd enc W 73 [k1] ws := by
      have h : Rd enc W 73 (([k0, k1, k2, k3, k4, k5, k6, k7, k8].drop 1).take (Tryz.prog.cellsOf 73)) ws := hf 1 _ rfl
      rw [show Tryz.prog.cellsOf 73 = 1 from by kernel_rfl] at h
      exact h
    obtain ⟨x0_A, x0_n, x0_c, e1⟩ := rd_slice_shape Tryz.underlying73 g1
    rw [e1] at g1
    have g2 : Rd enc W 73 [k2] ws := by
      have h : Rd enc W 73 (([k0, k1, k2, k3, k4, k5, k6, k7, k8].drop 2).take (Tryz.prog.cellsOf 73)) ws := hf 2 _ rfl
      rw [show Tryz.prog.cellsOf 73 = 1 from by kernel_rfl] at h
      exact h
    obtain ⟨x1_A, x1_n, x1_c, e2⟩ := rd_slice_shape Tryz.underlying73 g2
    rw [e2] at g2
    have g3 : Rd enc W 73 [k3] ws := by
      have h : Rd enc W 73 (([k0, k1, k2, k3, k4, k5, k6, k7, k8].drop 3).take (Tryz.prog.cellsOf 73)) ws := hf 3 _ rfl
      rw [show Tryz.prog.cellsOf 73 = 1 from by kernel_rfl] at h
      exact h
    obtain ⟨x2_A, x2_n, x2_c, e3⟩ := rd_slice_shape Tryz.underlying73 g3
    rw [e3] at g3
    have g4 : Rd enc W 73 [k4] ws := by
      have h : Rd enc W 73 (([k0, k1, k2, k3, k4, k5, k6, k7, k8].drop 4).take (Tryz.prog.cellsOf 73)) ws := hf 4 _ rfl
      rw [show Tryz.prog.cellsOf 73 = 1 from by kernel_rfl] at h
      exact h
    obtain ⟨x3_A, x3_n, x3_c, e4⟩ := rd_slice_shape Tryz.underlying73 g4
    rw [e4] at g4
    have g5 : Rd enc W 73 [k5] ws := by
      have h : Rd enc W 73 (([k0, k1, k2, k3, k4, k5, k6, k7, k8].drop 5).take (Tryz.prog.cellsOf 73)) ws := hf 5 _ rfl
      rw [show Tryz.prog.cellsOf 73 = 1 from by kernel_rfl] at h
      exact h
    obtain ⟨x4_A, x4_n, x4_c, e5⟩ := rd_slice_shape Tryz.underlying73 g5
    rw [e5] at g5
    have g6 : Rd enc W 73 [k6] ws := by
      have h : Rd enc W 73 (([k0, k1, k2, k3, k4, k5, k6, k7, k8].drop 6).take (Tryz.prog.cellsOf 73)) ws := hf 6 _ rfl
      rw [show Tryz.prog.cellsOf 73 = 1 from by kernel_rfl] at h
      exact h
    obtain ⟨x5_A, x5_n, x5_c, e6⟩ := rd_slice_shape Tryz.underlying73 g6
    rw [e6] at g6
    have g7 : Rd enc W 74 [k7] ws := by
      have h : Rd enc W 74 (([k0, k1, k2, k3, k4, k5, k6, k7, k8].drop 7).take (Tryz.prog.cellsOf 74)) ws := hf 7 _ rfl
      rw [show Tryz.prog.cellsOf 74 = 1 from by kernel_rfl] at h
      exact h
    obtain ⟨co_A, co_n, co_c, e7⟩ := rd_slice_shape Tryz.underlying74 g7
    rw [e7] at g7
    have g8 : Rd enc W 75 [k8] ws := by
      have h : Rd enc W 75 (([k0, k1, k2, k3, k4, k5, k6, k7, k8].drop 8).take (Tryz.prog.cellsOf 75)) ws := hf 8 _ rfl
      rw [show Tryz.prog.cellsOf 75 = 1 from by kernel_rfl] at h
      exact h
    obtain ⟨ex_A, ex_n, ex_c, e8⟩ := rd_slice_shape Tryz.underlying75 g8
    rw [e8] at g8
    simp only [List.cons.injEq, and_true] at e0 e1 e2 e3 e4 e5 e6 e7 e8
    refine ⟨ty_A, ty_n, ty_c, x0_A, x0_n, x0_c, x1_A, x1_n, x1_c, x2_A, x2_n, x2_c, x3_A, x3_n, x3_c, x4_A, x4_n, x4_c, x5_A, x5_n, x5_c, co_A, co_n, co_c, ex_A, ex_n, ex_c, ?_, g0, g1, g2, g3, g4, g5, g6, g7, g8⟩
    simp [e0, e1, e2, e3, e4, e5, e6, e7, e8]
set_option maxHeartbeats 1600000 in
set_option maxRecDepth 100000 in
theorem dec_ACT {H : Type} {enc : TypeId × Value → H} {W : World} {ws : List Nat} {cs : List Value} (h : Rd enc W 79 cs ws) : ∃ (d : Int) (a : Int) (n : Int) (f_t_p_A : Option Addr) (f_t_p_n f_t_p_c : Nat) (f_t_r_A : Option Addr) (f_t_r_n f_t_r_c : Nat) (f_h : Bool) (f_s : ByteArray) (f_i : Int) (f_b : Int) (t_el : Int) (t_l_mn : Int) (t_l_mx : Int) (t_l_bd : Bool) (l_mn : Int) (l_mx : Int) (l_bd : Bool) (g_v : Int) (g_m : Bool) (v_t : Int) (v_lo : Int) (v_hi : Int) (L_A : Option Addr) (L_n L_c : Nat) (B_A : Option Addr) (B_n B_c : Nat) (i_ty_A : Option Addr) (i_ty_n i_ty_c : Nat) (i_x0_A : Option Addr) (i_x0_n i_x0_c : Nat) (i_x1_A : Option Addr) (i_x1_n i_x1_c : Nat) (i_x2_A : Option Addr) (i_x2_n i_x2_c : Nat) (i_x3_A : Option Addr) (i_x3_n i_x3_c : Nat) (i_x4_A : Option Addr) (i_x4_n i_x4_c : Nat) (i_x5_A : Option Addr) (i_x5_n i_x5_c : Nat) (i_co_A : Option Addr) (i_co_n i_co_c : Nat) (i_ex_A : Option Addr) (i_ex_n i_ex_c : Nat), cs = [.int .i64 d, .int .i64 a, .int .u32 n, .slice f_t_p_A f_t_p_n f_t_p_c, .slice f_t_r_A f_t_r_n f_t_r_c, .bool f_h, .string f_s, .int .i64 f_i, .int .i64 f_b, .int .u8 t_el, .int .u32 t_l_mn, .int .u32 t_l_mx, .bool t_l_bd, .int .u32 l_mn, .int .u32 l_mx, .bool l_bd, .int .u8 g_v, .bool g_m, .int .u8 v_t, .int .u64 v_lo, .int .u64 v_hi, .slice L_A L_n L_c, .slice B_A B_n B_c, .slice i_ty_A i_ty_n i_ty_c, .slice i_x0_A i_x0_n i_x0_c, .slice i_x1_A i_x1_n i_x1_c, .slice i_x2_A i_x2_n i_x2_c, .slice i_x3_A i_x3_n i_x3_c, .slice i_x4_A i_x4_n i_x4_c, .slice i_x5_A i_x5_n i_x5_c, .slice i_co_A i_co_n i_co_c, .slice i_ex_A i_ex_n i_ex_c] ∧ (-9223372036854775808 ≤ d ∧ d ≤ 9223372036854775807) ∧ (-9223372036854775808 ≤ a ∧ a ≤ 9223372036854775807) ∧ (0 ≤ n ∧ n ≤ 4294967295) ∧ Rd enc W 36 [.slice f_t_p_A f_t_p_n f_t_p_c] ws ∧ Rd enc W 36 [.slice f_t_r_A f_t_r_n f_t_r_c] ws ∧ f_s.size ≤ maxLen ∧ (-9223372036854775808 ≤ f_i ∧ f_i ≤ 9223372036854775807) ∧ (-9223372036854775808 ≤ f_b ∧ f_b ≤ 9223372036854775807) ∧ (0 ≤ t_el ∧ t_el ≤ 255) ∧ (0 ≤ t_l_mn ∧ t_l_mn ≤ 4294967295) ∧ (0 ≤ t_l_mx ∧ t_l_mx ≤ 4294967295) ∧ (0 ≤ l_mn ∧ l_mn ≤ 4294967295) ∧ (0 ≤ l_mx ∧ l_mx ≤ 4294967295) ∧ (0 ≤ g_v ∧ g_v ≤ 255) ∧ (0 ≤ v_t ∧ v_t ≤ 255) ∧ (0 ≤ v_lo ∧ v_lo ≤ 18446744073709551615) ∧ (0 ≤ v_hi ∧ v_hi ≤ 18446744073709551615) ∧ Rd enc W 70 [.slice L_A L_n L_c] ws ∧ Rd enc W 71 [.slice B_A B_n B_c] ws ∧ Rd enc W 72 [.slice i_ty_A i_ty_n i_ty_c] ws ∧ Rd enc W 73 [.slice i_x0_A i_x0_n i_x0_c] ws ∧ Rd enc W 73 [.slice i_x1_A i_x1_n i_x1_c] ws ∧ Rd enc W 73 [.slice i_x2_A i_x2_n i_x2_c] ws ∧ Rd enc W 73 [.slice i_x3_A i_x3_n i_x3_c] ws ∧ Rd enc W 73 [.slice i_x4_A i_x4_n i_x4_c] ws ∧ Rd enc W 73 [.slice i_x5_A i_x5_n i_x5_c] ws ∧ Rd enc W 74 [.slice i_co_A i_co_n i_co_c] ws ∧ Rd enc W 75 [.slice i_ex_A i_ex_n i_ex_c] ws := by
  obtain ⟨hl, hf⟩ := rd_struct (n := 32) Tryz.underlying79 (by kernel_rfl) h
  match cs, hl with
  | [k0, k1, k2, k3, k4, k5, k6, k7, k8, k9, k10, k11, k12, k13, k14, k15, k16, k17, k18, k19, k20, k21, k22, k23, k24, k25, k26, k27, k28, k29, k30, k31], _ =>
    have g0 : Rd enc W 3 [k0] ws := by
      have h : Rd enc W 3 (([k0, k1, k2, k3, k4, k5, k6, k7, k8, k9, k10, k11, k12, k13, k14, k15, k16, k17, k18, k19, k20, k21, k22, k23, k24, k25, k26, k27, k28, k29, k30, k31].drop 0).take (Tryz.prog.cellsOf 3)) ws := hf 0 _ rfl
      rw [show Tryz.prog.cellsOf 3 = 1 from by kernel_rfl] at h
      exact h
    obtain ⟨d, e0, p0⟩ := rd_int Tryz.underlying3 g0
    have g1 : Rd enc W 3 [k1] ws := by
      have h : Rd enc W 3 (([k0, k1, k2, k3, k4, k5, k6, k7, k8, k9, k10, k11, k12, k13, k14, k15, k16, k17, k18, k19, k20, k21, k22, k23, k24, k25, k26, k27, k28, k29, k30, k31].drop 1).take (Tryz.prog.cellsOf 3)) ws := hf 1 _ rfl
      rw [show Tryz.prog.cellsOf 3 = 1 from by kernel_rfl] at h
      exact h
    obtain ⟨a, e1, p1⟩ := rd_int Tryz.underlying3 g1
    have g2 : Rd enc W 26 [k2] ws := by
      have h : Rd enc W 26 (([k0, k1, k2, k3, k4, k5, k6, k7, k8, k9, k10, k11, k12, k13, k14, k15, k16, k17, k18, k19, k20, k21, k22, k23, k24, k25, k26, k27, k28, k29, k30, k31].drop 2).take (Tryz.prog.cellsOf 26)) ws := hf 2 _ rfl
      rw [show Tryz.prog.cellsOf 26 = 1 from by kernel_rfl] at h
      exact h
    obtain ⟨n, e2, p2⟩ := rd_int Tryz.underlying26 g2
    have g3 : Rd enc W 51 [k3, k4, k5, k6, k7, k8] ws := by
      have h : Rd enc W 51 (([k0, k1, k2, k3, k4, k5, k6, k7, k8, k9, k10, k11, k12, k13, k14, k15, k16, k17, k18, k19, k20, k21, k22, k23, k24, k25, k26, k27, k28, k29, k30, k31].drop 3).take (Tryz.prog.cellsOf 51)) ws := hf 3 _ rfl
      rw [show Tryz.prog.cellsOf 51 = 6 from by kernel_rfl] at h
      exact h
    obtain ⟨f_t_p_A, f_t_p_n, f_t_p_c, f_t_r_A, f_t_r_n, f_t_r_c, f_h, f_s, f_i, f_b, e3, p3_0, p3_1, p3_3, p3_4, p3_5⟩ := dec_FUNC g3
    have g4 : Rd enc W 31 [k9, k10, k11, k12] ws := by
      have h : Rd enc W 31 (([k0, k1, k2, k3, k4, k5, k6, k7, k8, k9, k10, k11, k12, k13, k14, k15, k16, k17, k18, k19, k20, k21, k22, k23, k24, k25, k26, k27, k28, k29, k30, k31].drop 9).take (Tryz.prog.cellsOf 31)) ws := hf 4 _ rfl
      rw [show Tryz.prog.cellsOf 31 = 4 from by kernel_rfl] at h
      exact h
    obtain ⟨t_el, t_l_mn, t_l_mx, t_l_bd, e4, p4_0, p4_1, p4_2⟩ := dec_TT g4
    have g5 : Rd enc W 29 [k13, k14, k15] ws := by
      have h : Rd enc W 29 (([k0, k1, k2, k3, k4, k5, k6, k7, k8, k9, k10, k11, k12, k13, k14, k15, k16, k17, k18, k19, k20, k21, k22, k23, k24, k25, k26, k27, k28, k29, k30, k31].drop 13).take (Tryz.prog.cellsOf 29)) ws := hf 5 _ rfl
      rw [show Tryz.prog.cellsOf 29 = 3 from by kernel_rfl] at h
      exact h
    obtain ⟨l_mn, l_mx, l_bd, e5, p5_0, p5_1⟩ := dec_LIM g5
    have g6 : Rd enc W 33 [k16, k17] ws := by
      have h : Rd enc W 33 (([k0, k1, k2, k3, k4, k5, k6, k7, k8, k9, k10, k11, k12, k13, k14, k15, k16, k17, k18, k19, k20, k21, k22, k23, k24, k25, k26, k27, k28, k29, k30, k31].drop 16).take (Tryz.prog.cellsOf 33)) ws := hf 6 _ rfl
      rw [show Tryz.prog.cellsOf 33 = 2 from by kernel_rfl] at h
      exact h
    obtain ⟨g_v, g_m, e6, p6_0⟩ := dec_GT g6
    have g7 : Rd enc W 65 [k18, k19, k20] ws := by
      have h : Rd enc W 65 (([k0, k1, k2, k3, k4, k5, k6, k7, k8, k9, k10, k11, k12, k13, k14, k15, k16, k17, k18, k19, k20, k21, k22, k23, k24, k25, k26, k27, k28, k29, k30, k31].drop 18).take (Tryz.prog.cellsOf 65)) ws := hf 7 _ rfl
      rw [show Tryz.prog.cellsOf 65 = 3 from by kernel_rfl] at h
      exact h
    obtain ⟨v_t, v_lo, v_hi, e7, p7_0, p7_1, p7_2⟩ := dec_VAL g7
    have g8 : Rd enc W 70 [k21] ws := by
      have h : Rd enc W 70 (([k0, k1, k2, k3, k4, k5, k6, k7, k8, k9, k10, k11, k12, k13, k14, k15, k16, k17, k18, k19, k20, k21, k22, k23, k24, k25, k26, k27, k28, k29, k30, k31].drop 21).take (Tryz.prog.cellsOf 70)) ws := hf 8 _ rfl
      rw [show Tryz.prog.cellsOf 70 = 1 from by kernel_rfl] at h
      exact h
    obtain ⟨L_A, L_n, L_c, e8⟩ := rd_slice_shape Tryz.underlying70 g8
    rw [e8] at g8
    have g9 : Rd enc W 71 [k22] ws := by
      have h : Rd enc W 71 (([k0, k1, k2, k3, k4, k5, k6, k7, k8, k9, k10, k11, k12, k13, k14, k15, k16, k17, k18, k19, k20, k21, k22, k23, k24, k25, k26, k27, k28, k29, k30, k31].drop 22).take (Tryz.prog.cellsOf 71)) ws := hf 9 _ rfl
      rw [show Tryz.prog.cellsOf 71 = 1 from by kernel_rfl] at h
      exact h
    obtain ⟨B_A, B_n, B_c, e9⟩ := rd_slice_shape Tryz.underlying71 g9
    rw [e9] at g9
    have g10 : Rd enc W 77 [k23, k24, k25, k26, k27, k28, k29, k30, k31] ws := by
      have h : Rd enc W 77 (([k0, k1, k2, k3, k4, k5, k6, k7, k8, k9, k10, k11, k12, k13, k14, k15, k16, k17, k18, k19, k20, k21, k22, k23, k24, k25, k26, k27, k28, k29, k30, k31].drop 23).take (Tryz.prog.cellsOf 77)) ws := hf 10 _ rfl
      rw [show Tryz.prog.cellsOf 77 = 9 from by kernel_rfl] at h
      exact h
    obtain ⟨i_ty_A, i_ty_n, i_ty_c, i_x0_A, i_x0_n, i_x0_c, i_x1_A, i_x1_n, i_x1_c, i_x2_A, i_x2_n, i_x2_c, i_x3_A, i_x3_n, i_x3_c, i_x4_A, i_x4_n, i_x4_c, i_x5_A, i_x5_n, i_x5_c, i_co_A, i_co_n, i_co_c, i_ex_A, i_ex_n, i_ex_c, e10, p10_0, p10_1, p10_2, p10_3, p10_4, p10_5, p10_6, p10_7, p10_8⟩ := dec_INST g10
    simp only [List.cons.injEq, and_true] at e0 e1 e2 e3 e4 e5 e6 e7 e8 e9 e10
    refine ⟨d, a, n, f_t_p_A, f_t_p_n, f_t_p_c, f_t_r_A, f_t_r_n, f_t_r_c, f_h, f_s, f_i, f_b, t_el, t_l_mn, t_l_mx, t_l_bd, l_mn, l_mx, l_bd, g_v, g_m, v_t, v_lo, v_hi, L_A, L_n, L_c, B_A, B_n, B_c, i_ty_A, i_ty_n, i_ty_c, i_x0_A, i_x0_n, i_x0_c, i_x1_A, i_x1_n, i_x1_c, i_x2_A, i_x2_n, i_x2_c, i_x3_A, i_x3_n, i_x3_c, i_x4_A, i_x4_n, i_x4_c, i_x5_A, i_x5_n, i_x5_c, i_co_A, i_co_n, i_co_c, i_ex_A, i_ex_n, i_ex_c, ?_, bounds_i64 p0, bounds_i64 p1, bounds_u32 p2, p3_0, p3_1, p3_3, p3_4, p3_5, p4_0, p4_1, p4_2, p5_0, p5_1, p6_0, p7_0, p7_1, p7_2, g8, g9, p10_0, p10_1, p10_2, p10_3, p10_4, p10_5, p10_6, p10_7, p10_8⟩
    simp [e0, e1, e2, e3, e4, e5, e6, e7, e8, e9, e10]
end Go.Proofs.YtlnkdnmeikpckaaGreat
namespace Go.Proofs.YtlnkdnmeikpckaaGreat
open Go.ChangeShapes Go.WideShapes Go.ChangeAt Go.RowKit Go.Joins
set_option maxRecDepth 100000
section
variable {H : Type} {enc : TypeId × Value → H} {W : World} {ws : List Nat} {A : Option Addr} {n c : Nat} {cs : List Value}
/-- A list that came in: its cells in a row, and how each element reads. -/
theorem lsl_of_rd {e sz bytes : Nat} (hs : RdSl enc W e sz bytes A n c ws) (h0 : 0 < sz) (hws : ∀ q ∈ ws, q ≤ reachBytes) :
    ∃ F : Nat → Value, LSl W sz bytes A n c F ∧ ∀ i, i < n → ∃ cs, cs.length = sz ∧ (∀ j, j < sz → cs[j]? = some (F (i * sz + j))) ∧ Rd enc W e cs ws := by
  rcases Nat.eq_zero_or_pos n with hn0 | hpos
  · subst hn0
    exact ⟨fun _ => undef, ⟨by rw [Nat.zero_mul]; exact Sl.nil _, fun e => ⟨rfl, hs.z e⟩, by omega⟩, fun i hi => absurd hi (Nat.not_lt_zero i)⟩
  obtain ⟨b, o, rfl, hel⟩ := hs.el hpos
  have each : ∀ i, ∃ cs : List Value, i < n → cs.length = sz ∧ (∀ j, j < sz → W.cell? ⟨b, o + i * sz + j, none⟩ = cs[j]?) ∧ Rd enc W e cs ws := fun i => by
    by_cases hi : i < n
    · obtain ⟨cs, h⟩ := hel i hi
      exact ⟨cs, fun _ => h⟩
    · exact ⟨[], fun h => absurd h hi⟩
  obtain ⟨C, hC⟩ := Classical.axiomOfChoice each
  have hF : ∀ i, i < n → ∀ j, j < sz → (C i)[j]? = some ((fun k => ((C (k / sz))[k % sz]?).getD undef) (i * sz + j)) := fun i hi j hj => by
    have h1 : (i * sz + j) / sz = i := by rw [Nat.mul_comm, Nat.mul_add_div h0, Nat.div_eq_of_lt hj, Nat.add_zero]
    have h2 : (i * sz + j) % sz = j := by rw [Nat.mul_comm, Nat.mul_add_mod, Nat.mod_eq_of_lt hj]
    have h3 : j < (C i).length := by rw [(hC i hi).1]; exact hj
    show (C i)[j]? = some (((C ((i * sz + j) / sz))[(i * sz + j) % sz]?).getD undef)
    rw [h1, h2, List.getElem?_eq_getElem h3]
    rfl
  refine ⟨fun k => ((C (k / sz))[k % sz]?).getD undef, ⟨fun _ => ⟨b, o, rfl, fun k hk => ?_⟩, (fun e => by cases e), hs.wt hws⟩, fun i hi => ⟨C i, (hC i hi).1, fun j hj => hF i hi j hj, (hC i hi).2.2⟩⟩
  have hi : k / sz < n := Nat.div_lt_of_lt_mul (by rw [Nat.mul_comm]; exact hk)
  have hj : k % sz < sz := Nat.mod_lt _ h0
  have h1 := (hC (k / sz) hi).2.1 (k % sz) hj
  have h2 : o + k / sz * sz + k % sz = o + k := by rw [Nat.add_assoc, Nat.mul_comm, Nat.div_add_mod]
  rw [h2] at h1
  rw [h1]
  have h3 : k % sz < (C (k / sz)).length := by rw [(hC (k / sz) hi).1]; exact hj
  rw [List.getElem?_eq_getElem h3]
  rfl
theorem tsl_rd' (h : Rd enc W 36 [.slice A n c] ws) (hws : ∀ q ∈ ws, q ≤ reachBytes) : ∃ v, TSl W A n c v := by
  have hs := rd_slice (sz := 1) (bytes := 1) Tryz.underlying36 (by kernel_rfl) (by kernel_rfl) (by omega) h
  obtain ⟨F, hF, hel⟩ := lsl_of_rd hs (by omega) hws
  have each : ∀ i, ∃ x : UInt8, i < n → F i = .int .u8 (x.toNat : Int) := fun i => by
    by_cases hi : i < n
    · obtain ⟨cs, _, hc, hr⟩ := hel i hi
      obtain ⟨x, rfl, hw⟩ := rd_int Tryz.underlying27 hr
      have hb := bounds_u8 hw
      refine ⟨UInt8.ofNat x.toNat, fun _ => ?_⟩
      have h0 := hc 0 (by omega)
      rw [Nat.mul_one, Nat.add_zero] at h0
      have h1 : F i = .int .u8 x := (Option.some.inj h0).symm
      rw [h1, show ((UInt8.ofNat x.toNat).toNat : Int) = x by rw [UInt8.toNat_ofNat']; omega]
    · exact ⟨0, fun h => absurd h hi⟩
  obtain ⟨v, hv⟩ := Classical.axiomOfChoice each
  have hsl := hF.sl
  rw [Nat.mul_one] at hsl
  refine ⟨v, fun hn => ?_, hF.z, by have := hF.sm; omega⟩
  obtain ⟨b, o, e, hc⟩ := hsl hn
  exact ⟨b, o, e, fun i hi => by rw [hc i hi, hv i hi]; rfl⟩
theorem bsl_rd' (h : Rd enc W 71 [.slice A n c] ws) (hws : ∀ q ∈ ws, q ≤ reachBytes) : ∃ v, LSl W 1 1 A n c (byteV v) := by
  have hs := rd_slice (sz := 1) (bytes := 1) Tryz.underlying71 (by kernel_rfl) (by kernel_rfl) (by omega) h
  obtain ⟨F, hF, hel⟩ := lsl_of_rd hs (by omega) hws
  have each : ∀ i, ∃ x : UInt8, i < n → F i = .int .u8 (x.toNat : Int) := fun i => by
    by_cases hi : i < n
    · obtain ⟨cs, _, hc, hr⟩ := hel i hi
      obtain ⟨x, rfl, hw⟩ := rd_int Tryz.underlying5 hr
      have hb := bounds_u8 hw
      refine ⟨UInt8.ofNat x.toNat, fun _ => ?_⟩
      have h0 := hc 0 (by omega)
      rw [Nat.mul_one, Nat.add_zero] at h0
      have h1 : F i = .int .u8 x := (Option.some.inj h0).symm
      rw [h1, show ((UInt8.ofNat x.toNat).toNat : Int) = x by rw [UInt8.toNat_ofNat']; omega]
    · exact ⟨0, fun h => absurd h hi⟩
  obtain ⟨v, hv⟩ := Classical.axiomOfChoice each
  refine ⟨v, fun hn => ?_, hF.z, hF.sm⟩
  obtain ⟨b, o, e, hc⟩ := hF.sl hn
  exact ⟨b, o, e, fun i hi => by rw [hc i hi, hv i (by omega)]; rfl⟩
theorem isl_rd (h : Rd enc W 73 [.slice A n c] ws) (hws : ∀ q ∈ ws, q ≤ reachBytes) : ∃ v, LSl W 1 8 A n c (intV v) := by
  have hs := rd_slice (sz := 1) (bytes := 8) Tryz.underlying73 (by kernel_rfl) (by kernel_rfl) (by omega) h
  obtain ⟨F, hF, hel⟩ := lsl_of_rd hs (by omega) hws
  have each : ∀ i, ∃ x : Int, i < n → F i = .int .i64 x := fun i => by
    by_cases hi : i < n
    · obtain ⟨cs, _, hc, hr⟩ := hel i hi
      obtain ⟨x, rfl, hw⟩ := rd_int Tryz.underlying3 hr
      have h0 := hc 0 (by omega)
      rw [Nat.mul_one, Nat.add_zero] at h0
      exact ⟨x, fun _ => (Option.some.inj h0).symm⟩
    · exact ⟨0, fun h => absurd h hi⟩
  obtain ⟨v, hv⟩ := Classical.axiomOfChoice each
  refine ⟨v, fun hn => ?_, hF.z, hF.sm⟩
  obtain ⟨b, o, e, hc⟩ := hF.sl hn
  exact ⟨b, o, e, fun i hi => by rw [hc i hi, hv i (by omega)]; rfl⟩
theorem vsl_rd' (h : Rd enc W 70 [.slice A n c] ws) (hws : ∀ q ∈ ws, q ≤ reachBytes) : ∃ v, LSl W 3 24 A n c (vcell v) ∧ ∀ j, j < n → VOk (v j) := by
  have hs := rd_slice (sz := 3) (bytes := 24) Tryz.underlying70 (by kernel_rfl) (by kernel_rfl) (by omega) h
  obtain ⟨F, hF, hel⟩ := lsl_of_rd hs (by omega) hws
  have each : ∀ i, ∃ x : V3, i < n → VOk x ∧ ∀ j, j < 3 → F (i * 3 + j) = vpart x j := fun i => by
    by_cases hi : i < n
    · obtain ⟨cs, _, hc, hr⟩ := hel i hi
      obtain ⟨t, lo, hh, rfl, _, hlo, _⟩ := dec_VAL hr
      refine ⟨⟨t, lo, hh⟩, fun _ => ⟨hlo, fun j hj => ?_⟩⟩
      have h1 := hc j hj
      match j, hj, h1 with
      | 0, _, h1 => exact (Option.some.inj h1).symm
      | 1, _, h1 => exact (Option.some.inj h1).symm
      | 2, _, h1 => exact (Option.some.inj h1).symm
    · exact ⟨⟨0, 0, 0⟩, fun h => absurd h hi⟩
  obtain ⟨v, hv⟩ := Classical.axiomOfChoice each
  refine ⟨v, ⟨fun hn => ?_, hF.z, hF.sm⟩, fun j hj => (hv j hj).1⟩
  obtain ⟨b, o, e, hc⟩ := hF.sl hn
  refine ⟨b, o, e, fun i hi => ?_⟩
  rw [hc i hi]
  have h5 := (hv (i / 3) (by omega)).2 (i % 3) (by omega)
  rw [show i / 3 * 3 + i % 3 = i by omega] at h5
  rw [h5]
  rfl
theorem rd_array {t e : TypeId} {k m : Nat} (ht : Tryz.prog.underlying t = some (.array k e)) (hm : Tryz.prog.cellsOf t = m) (h1 : Tryz.prog.cellsOf e = 1) (h : Rd enc W t cs ws) (hk : k = m) :
    cs.length = m ∧ ∀ i, i < m → ∃ fuel y, DataW.trod enc Tryz.prog W 0 (fun _ => true) true fuel e [cs.getD i undef] = some y := by
  obtain ⟨f, y, h, _⟩ := h
  obtain ⟨xs, q, _, _, hl, hxl, hf⟩ := DataW.trod_array ht h
  rw [hm] at hl
  refine ⟨hl, fun i hi => ?_⟩
  have h2 := hf i (by omega)
  have hlt : i < xs.length := by omega
  rw [h1, Nat.mul_one, List.getElem?_eq_getElem hlt] at h2
  have h3 : (cs.drop i).take 1 = [cs.getD i undef] := by
    have hi' : i < cs.length := by omega
    rw [List.drop_eq_getElem_cons hi', List.take_succ_cons, List.take_zero]
    simp [hi']
  rw [h3] at h2
  exact ⟨_, _, h2⟩
/-- One field of a struct, one cell. -/
theorem rd_one {ft : TypeId} {o : Nat} (h : Rd enc W ft ((cs.drop o).take (Tryz.prog.cellsOf ft)) ws) (h1 : Tryz.prog.cellsOf ft = 1) (ho : o < cs.length) : Rd enc W ft [cs.getD o undef] ws := by
  rw [h1] at h
  have h3 : (cs.drop o).take 1 = [cs.getD o undef] := by
    rw [List.drop_eq_getElem_cons ho, List.take_succ_cons, List.take_zero]
    simp [ho]
  rwa [h3] at h
theorem getD_some {o : Nat} {v : Value} (h : [cs.getD o undef] = [v]) (ho : o < cs.length) : cs[o]? = some v := by
  have h1 : cs.getD o undef = v := by simpa using h
  rw [← h1, List.getElem?_eq_getElem ho]
  simp [ho]
def OneAt (cs : List Value) (o : Nat) : Prop := ∃ v, cs[o]? = some v ∧ v.oneCell' = true
theorem one_int {t : TypeId} {k : IntKind} {o : Nat} (ht : Tryz.prog.underlying t = some (.int k)) (h : Rd enc W t [cs.getD o undef] ws) (ho : o < cs.length) : OneAt cs o := by
  obtain ⟨n, e, _⟩ := rd_int ht h
  exact ⟨_, getD_some e ho, rfl⟩
theorem flat_of_rd (h : Rd enc W 230 cs ws) : (∀ j, j < 25 → OneAt cs j) ∧ (∃ A n c, cs[20]? = some (.slice A n c) ∧ Rd enc W 36 [.slice A n c] ws) ∧ ∃ A n c, cs[24]? = some (.slice A n c) ∧ Rd enc W 228 [.slice A n c] ws := by
  obtain ⟨hl, hf⟩ := rd_struct (n := 25) Tryz.underlying230 (by kernel_rfl) h
  have g0 := rd_one (hf 0 _ rfl) (by kernel_rfl) (by show 0 < cs.length; omega)
  have g1 := rd_one (hf 1 _ rfl) (by kernel_rfl) (by show 1 < cs.length; omega)
  have g2 := rd_one (hf 2 _ rfl) (by kernel_rfl) (by show 2 < cs.length; omega)
  have g3 := rd_one (hf 3 _ rfl) (by kernel_rfl) (by show 3 < cs.length; omega)
  have g5 := rd_one (hf 5 _ rfl) (by kernel_rfl) (by show 20 < cs.length; omega)
  have g6 := rd_one (hf 6 _ rfl) (by kernel_rfl) (by show 21 < cs.length; omega)
  have g7 := rd_one (hf 7 _ rfl) (by kernel_rfl) (by show 22 < cs.length; omega)
  have g8 := rd_one (hf 8 _ rfl) (by kernel_rfl) (by show 23 < cs.length; omega)
  have g9 := rd_one (hf 9 _ rfl) (by kernel_rfl) (by show 24 < cs.length; omega)
  have g4 : Rd enc W 227 ((cs.drop 4).take 16) ws := by
    have h : Rd enc W 227 ((cs.drop 4).take (Tryz.prog.cellsOf 227)) ws := hf 4 _ rfl
    rw [show Tryz.prog.cellsOf 227 = 16 from by kernel_rfl] at h
    exact h
  obtain ⟨_, harr⟩ := rd_array (m := 16) Tryz.underlying227 (by kernel_rfl) (by kernel_rfl) g4 rfl
  obtain ⟨A, n, c, e5⟩ := rd_slice_shape Tryz.underlying36 g5
  obtain ⟨B, m, d, e9⟩ := rd_slice_shape Tryz.underlying228 g9
  rw [e5] at g5
  rw [e9] at g9
  have s20 : cs[20]? = some (.slice A n c) := getD_some e5 (by show 20 < cs.length; omega)
  have s24 : cs[24]? = some (.slice B m d) := getD_some e9 (by show 24 < cs.length; omega)
  refine ⟨fun j hj => ?_, ⟨A, n, c, s20, g5⟩, B, m, d, s24, g9⟩
  by_cases h4 : j < 4
  · match j, h4 with
    | 0, _ => exact one_int Tryz.underlying226 g0 (by omega)
    | 1, _ => exact one_int Tryz.underlying26 g1 (by omega)
    | 2, _ => exact one_int Tryz.underlying26 g2 (by omega)
    | 3, _ => exact one_int Tryz.underlying63 g3 (by omega)
  by_cases h20 : j < 20
  · obtain ⟨f, y, hy⟩ := harr (j - 4) (by omega)
    obtain ⟨x, e, _⟩ := DataW.trod_int Tryz.underlying5 hy
    have h5 : (List.take 16 (List.drop 4 cs)).getD (j - 4) undef = cs.getD j undef := by
      simp [List.getElem?_drop, show j - 4 < 16 by omega, show 4 + (j - 4) = j by omega]
    rw [h5] at e
    exact ⟨_, getD_some e (by omega), rfl⟩
  by_cases h24 : j = 24
  · subst h24; exact ⟨_, s24, rfl⟩
  by_cases hh20 : j = 20
  · subst hh20; exact ⟨_, s20, rfl⟩
  by_cases hh21 : j = 21
  · subst hh21; exact one_int Tryz.underlying3 g6 (by omega)
  by_cases hh22 : j = 22
  · subst hh22; exact one_int Tryz.underlying3 g7 (by omega)
  · obtain rfl : j = 23 := by omega
    exact one_int Tryz.underlying3 g8 (by omega)
theorem goal_of_rd (h : Rd enc W 233 cs ws) : ∀ j, j < 3 → OneAt cs j := by
  obtain ⟨hl, hf⟩ := rd_struct (n := 3) Tryz.underlying233 (by kernel_rfl) h
  have g0 := rd_one (hf 0 _ rfl) (by kernel_rfl) (by show 0 < cs.length; omega)
  have g1 := rd_one (hf 1 _ rfl) (by kernel_rfl) (by show 1 < cs.length; omega)
  have g2 := rd_one (hf 2 _ rfl) (by kernel_rfl) (by show 2 < cs.length; omega)
  intro j hj
  match j, hj with
  | 0, _ => exact one_int Tryz.underlying3 g0 (by omega)
  | 1, _ => exact one_int Tryz.underlying3 g1 (by omega)
  | 2, _ => exact one_int Tryz.underlying3 g2 (by omega)
theorem local_of_rd (h : Rd enc W 236 cs ws) : ∀ j, j < 2 → OneAt cs j := by
  obtain ⟨hl, hf⟩ := rd_struct (n := 2) Tryz.underlying236 (by kernel_rfl) h
  have g0 := rd_one (hf 0 _ rfl) (by kernel_rfl) (by show 0 < cs.length; omega)
  have g1 := rd_one (hf 1 _ rfl) (by kernel_rfl) (by show 1 < cs.length; omega)
  intro j hj
  match j, hj with
  | 0, _ => exact one_int Tryz.underlying26 g0 (by omega)
  | 1, _ => exact one_int Tryz.underlying27 g1 (by omega)
/-- A list whose elements' cells are one cell each. -/
theorem onec_of {sz : Nat} {F : Nat → Value} (h0 : 0 < sz) (h : ∀ i, i < n → ∃ cs : List Value, (∀ j, j < sz → cs[j]? = some (F (i * sz + j))) ∧ ∀ j, j < sz → OneAt cs j) : OneC (n * sz) F := fun k hk => by
  have hi : k / sz < n := Nat.div_lt_of_lt_mul (by rw [Nat.mul_comm]; exact hk)
  have hj : k % sz < sz := Nat.mod_lt _ h0
  obtain ⟨cs, h1, h2⟩ := h (k / sz) hi
  obtain ⟨v, e, hv⟩ := h2 (k % sz) hj
  have h3 := h1 (k % sz) hj
  rw [e, Nat.mul_comm, Nat.div_add_mod] at h3
  rw [← Option.some.inj h3]
  exact hv
theorem glsl_rd (h : Rd enc W 228 [.slice A n c] ws) (hws : ∀ q ∈ ws, q ≤ reachBytes) : ∃ GF, LSl W 3 24 A n c GF ∧ OneC (n * 3) GF := by
  have hs := rd_slice (sz := 3) (bytes := 24) Tryz.underlying228 (by kernel_rfl) (by kernel_rfl) (by omega) h
  obtain ⟨F, hF, hel⟩ := lsl_of_rd hs (by omega) hws
  exact ⟨F, hF, onec_of (by omega) fun i hi => by
    obtain ⟨cs, _, hc, hr⟩ := hel i hi
    exact ⟨cs, hc, goal_of_rd hr⟩⟩
theorem olsl_rd (h : Rd enc W 221 [.slice A n c] ws) (hws : ∀ q ∈ ws, q ≤ reachBytes) : ∃ GF, LSl W 2 8 A n c GF ∧ OneC (n * 2) GF := by
  have hs := rd_slice (sz := 2) (bytes := 8) Tryz.underlying221 (by kernel_rfl) (by kernel_rfl) (by omega) h
  obtain ⟨F, hF, hel⟩ := lsl_of_rd hs (by omega) hws
  exact ⟨F, hF, onec_of (by omega) fun i hi => by
    obtain ⟨cs, _, hc, hr⟩ := hel i hi
    exact ⟨cs, hc, local_of_rd hr⟩⟩
theorem flsl_rd (h : Rd enc W 218 [.slice A n c] ws) (hws : ∀ q ∈ ws, q ≤ reachBytes) : ∃ F, LSl W 25 112 A n c F ∧ OneC (n * 25) F ∧ ∀ j, j < n → FlOk W F j := by
  have hs := rd_slice (sz := 25) (bytes := 112) Tryz.underlying218 (by kernel_rfl) (by kernel_rfl) (by omega) h
  obtain ⟨F, hF, hel⟩ := lsl_of_rd hs (by omega) hws
  refine ⟨F, hF, onec_of (by omega) fun i hi => ?_, fun i hi => ?_⟩
  · obtain ⟨cs, _, hc, hr⟩ := hel i hi
    exact ⟨cs, hc, (flat_of_rd hr).1⟩
  · obtain ⟨cs, _, hc, hr⟩ := hel i hi
    obtain ⟨_, ⟨A, n, c, e1, g1⟩, B, m, d, e2, g2⟩ := flat_of_rd hr
    obtain ⟨v, hv⟩ := tsl_rd' g1 hws
    obtain ⟨GF, hG, h1⟩ := glsl_rd g2 hws
    exact ⟨A, n, c, v, B, m, d, GF, (Option.some.inj ((hc 20 (by omega)).symm.trans e1)), (Option.some.inj ((hc 24 (by omega)).symm.trans e2)), hv, hG, h1⟩
theorem inst_of_rd {ta : Option Addr} {tn tc : Nat} {a0 a1 a2 a3 a4 a5 : Option Addr} {n0 n1 n2 n3 n4 n5 c0 c1 c2 c3 c4 c5 : Nat} {ca : Option Addr} {cn cc : Nat} {ea : Option Addr} {en ec : Nat} (hws : ∀ q ∈ ws, q ≤ reachBytes)
    (ht : Rd enc W 72 [.slice ta tn tc] ws) (h0 : Rd enc W 73 [.slice a0 n0 c0] ws) (h1 : Rd enc W 73 [.slice a1 n1 c1] ws) (h2 : Rd enc W 73 [.slice a2 n2 c2] ws) (h3 : Rd enc W 73 [.slice a3 n3 c3] ws) (h4 : Rd enc W 73 [.slice a4 n4 c4] ws) (h5 : Rd enc W 73 [.slice a5 n5 c5] ws)
    (hc : Rd enc W 74 [.slice ca cn cc] ws) (he : Rd enc W 75 [.slice ea en ec] ws) :
    ∃ I : InA, InOk W I ∧ I.cells = #[.slice ta tn tc, .slice a0 n0 c0, .slice a1 n1 c1, .slice a2 n2 c2, .slice a3 n3 c3, .slice a4 n4 c4, .slice a5 n5 c5, .slice ca cn cc, .slice ea en ec] := by
  obtain ⟨TF, hT, hTe⟩ := lsl_of_rd (rd_slice (sz := 2) (bytes := 48) Tryz.underlying72 (by kernel_rfl) (by kernel_rfl) (by omega) ht) (by omega) hws
  obtain ⟨CF, hC, hCe⟩ := lsl_of_rd (rd_slice (sz := 3) (bytes := 56) Tryz.underlying74 (by kernel_rfl) (by kernel_rfl) (by omega) hc) (by omega) hws
  obtain ⟨EF, hE, hEe⟩ := lsl_of_rd (rd_slice (sz := 3) (bytes := 32) Tryz.underlying75 (by kernel_rfl) (by kernel_rfl) (by omega) he) (by omega) hws
  obtain ⟨v0, q0⟩ := isl_rd h0 hws
  obtain ⟨v1, q1⟩ := isl_rd h1 hws
  obtain ⟨v2, q2⟩ := isl_rd h2 hws
  obtain ⟨v3, q3⟩ := isl_rd h3 hws
  obtain ⟨v4, q4⟩ := isl_rd h4 hws
  obtain ⟨v5, q5⟩ := isl_rd h5 hws
  have hT' : ∀ i, i < tn → TyOk W TF i := fun i hi => by
    obtain ⟨cs, _, hcs, hr⟩ := hTe i hi
    obtain ⟨A, np, c, C, nr, d, rfl, g1, g2⟩ := dec_FT hr
    obtain ⟨v, hv⟩ := tsl_rd' g1 hws
    obtain ⟨u, hu⟩ := tsl_rd' g2 hws
    exact ⟨A, np, c, v, C, nr, d, u, (Option.some.inj (hcs 0 (by omega))).symm, (Option.some.inj (hcs 1 (by omega))).symm, hv, hu⟩
  have hC' : ∀ i, i < cn → CoOk W CF i := fun i hi => by
    obtain ⟨cs, hlen, hcs, hr⟩ := hCe i hi
    obtain ⟨hl, hf⟩ := rd_struct (n := 3) Tryz.underlying223 (by kernel_rfl) hr
    have gc : Rd enc W 220 ((cs.drop 0).take 2) ws := by
      have h : Rd enc W 220 ((cs.drop 0).take (Tryz.prog.cellsOf 220)) ws := hf 0 _ rfl
      rw [show Tryz.prog.cellsOf 220 = 2 from by kernel_rfl] at h
      exact h
    have go := rd_one (hf 1 _ rfl) (by kernel_rfl) (by show 2 < cs.length; omega)
    match cs, hlen with
    | [k0, k1, k2], _ =>
      obtain ⟨hl2, hf2⟩ := rd_struct (n := 2) Tryz.underlying220 (by kernel_rfl) gc
      have g0 := rd_one (hf2 0 _ rfl) (by kernel_rfl) (by show 0 < (List.take 2 (List.drop 0 [k0, k1, k2])).length; simp)
      have g1 := rd_one (hf2 1 _ rfl) (by kernel_rfl) (by show 1 < (List.take 2 (List.drop 0 [k0, k1, k2])).length; simp)
      obtain ⟨L, ln, lc, e0⟩ := rd_slice_shape Tryz.underlying218 g0
      obtain ⟨hi', e1, _⟩ := rd_int Tryz.underlying3 g1
      obtain ⟨O, on, oc, e2⟩ := rd_slice_shape Tryz.underlying221 go
      rw [e0] at g0
      rw [e2] at go
      obtain ⟨LF, hL, h1, hfl⟩ := flsl_rd g0 hws
      obtain ⟨OF, hO, h1o⟩ := olsl_rd go hws
      have f0 : k0 = .slice L ln lc := by simpa using e0
      have f1 : k1 = .int .i64 hi' := by simpa using e1
      have f2 : k2 = .slice O on oc := by simpa using e2
      exact ⟨L, ln, lc, LF, hi', O, on, oc, OF, by rw [← f0]; exact (Option.some.inj (hcs 0 (by omega))).symm, by rw [← f1]; exact (Option.some.inj (hcs 1 (by omega))).symm, by rw [← f2]; exact (Option.some.inj (hcs 2 (by omega))).symm, hL, h1, hfl, hO, h1o⟩
  have hE' : ∀ i, ∃ x : ByteArray × Int × Int, i < en → EF (i * 3) = .string x.1 ∧ EF (i * 3 + 1) = .int .u8 x.2.1 ∧ EF (i * 3 + 2) = .int .i64 x.2.2 ∧ 0 ≤ x.2.1 ∧ x.2.1 ≤ 255 := fun i => by
    by_cases hi : i < en
    · obtain ⟨cs, hlen, hcs, hr⟩ := hEe i hi
      obtain ⟨hl, hf⟩ := rd_struct (n := 3) Tryz.underlying158 (by kernel_rfl) hr
      have g0 := rd_one (hf 0 _ rfl) (by kernel_rfl) (by show 0 < cs.length; omega)
      have gx : Rd enc W 25 ((cs.drop 1).take 2) ws := by
        have h : Rd enc W 25 ((cs.drop 1).take (Tryz.prog.cellsOf 25)) ws := hf 1 _ rfl
        rw [show Tryz.prog.cellsOf 25 = 2 from by kernel_rfl] at h
        exact h
      match cs, hlen with
      | [k0, k1, k2], _ =>
        obtain ⟨hl2, hf2⟩ := rd_struct (n := 2) Tryz.underlying25 (by kernel_rfl) gx
        have g1 := rd_one (hf2 0 _ rfl) (by kernel_rfl) (by show 0 < (List.take 2 (List.drop 1 [k0, k1, k2])).length; simp)
        have g2 := rd_one (hf2 1 _ rfl) (by kernel_rfl) (by show 1 < (List.take 2 (List.drop 1 [k0, k1, k2])).length; simp)
        obtain ⟨s, e0, _⟩ := rd_string Tryz.underlying9 g0
        obtain ⟨x, e1, hx⟩ := rd_int Tryz.underlying23 g1
        obtain ⟨y, e2, _⟩ := rd_int Tryz.underlying3 g2
        have hb := bounds_u8 hx
        have f0 : k0 = .string s := by simpa using e0
        have f1 : k1 = .int .u8 x := by simpa using e1
        have f2 : k2 = .int .i64 y := by simpa using e2
        exact ⟨⟨s, x, y⟩, fun _ => ⟨by rw [← f0]; exact (Option.some.inj (hcs 0 (by omega))).symm, by rw [← f1]; exact (Option.some.inj (hcs 1 (by omega))).symm, by rw [← f2]; exact (Option.some.inj (hcs 2 (by omega))).symm, hb.1, hb.2⟩⟩
    · exact ⟨⟨ByteArray.empty, 0, 0⟩, fun h => absurd h hi⟩
  obtain ⟨ex, hex⟩ := Classical.axiomOfChoice hE'
  refine ⟨⟨ta, tn, tc, TF, fun j => if j = 0 then a0 else if j = 1 then a1 else if j = 2 then a2 else if j = 3 then a3 else if j = 4 then a4 else a5, fun j => if j = 0 then n0 else if j = 1 then n1 else if j = 2 then n2 else if j = 3 then n3 else if j = 4 then n4 else n5,
    fun j => if j = 0 then c0 else if j = 1 then c1 else if j = 2 then c2 else if j = 3 then c3 else if j = 4 then c4 else c5, fun j => if j = 0 then v0 else if j = 1 then v1 else if j = 2 then v2 else if j = 3 then v3 else if j = 4 then v4 else v5,
    ca, cn, cc, CF, ea, en, ec, EF, fun i => (ex i).2.1, fun i => (ex i).2.2⟩, ⟨hT, hT', fun j hj => ?_, hC, hC', hE, ⟨fun j hj => ⟨_, (hex j hj).1⟩, fun j hj => (hex j hj).2.1, fun j hj => (hex j hj).2.2.1, fun j hj => (hex j hj).2.2.2⟩⟩, rfl⟩
  match j, hj with
  | 0, _ => exact q0
  | 1, _ => exact q1
  | 2, _ => exact q2
  | 3, _ => exact q3
  | 4, _ => exact q4
  | 5, _ => exact q5
theorem act_of_rd (hws : ∀ q ∈ ws, q ≤ reachBytes) (h : Rd enc W 79 cs ws) : ∃ (d : Int) (x : ActP), ActOk W x ∧ cs = (x.cells d).toList := by
  obtain ⟨d, a, n, f_t_p_A, f_t_p_n, f_t_p_c, f_t_r_A, f_t_r_n, f_t_r_c, f_h, f_s, f_i, f_b, t_el, t_l_mn, t_l_mx, t_l_bd, l_mn, l_mx, l_bd, g_v, g_m, v_t, v_lo, v_hi, L_A, L_n, L_c, B_A, B_n, B_c, i_ty_A, i_ty_n, i_ty_c, i_x0_A, i_x0_n, i_x0_c, i_x1_A, i_x1_n, i_x1_c, i_x2_A, i_x2_n, i_x2_c, i_x3_A, i_x3_n, i_x3_c, i_x4_A, i_x4_n, i_x4_c, i_x5_A, i_x5_n, i_x5_c, i_co_A, i_co_n, i_co_c, i_ex_A, i_ex_n, i_ex_c, rfl, b0, b1, b2, r1, r2, b3, b4, b5, b6, b7, b8, b9, b10, b11, b12, b13, b14, r3, r4, r5, s0, s1, s2, s3, s4, s5, r6, r7⟩ := dec_ACT h
  obtain ⟨pv, hp⟩ := tsl_rd' r1 hws
  obtain ⟨ru, hr⟩ := tsl_rd' r2 hws
  obtain ⟨lf, hlf, hlo⟩ := vsl_rd' r3 hws
  obtain ⟨bf, hbf⟩ := bsl_rd' r4 hws
  obtain ⟨I, hI, hIc⟩ := inst_of_rd hws r5 s0 s1 s2 s3 s4 s5 r6 r7
  refine ⟨d, ⟨a, n, f_t_p_A, f_t_p_n, f_t_p_c, pv, f_t_r_A, f_t_r_n, f_t_r_c, ru, f_h, f_s, f_i, f_b, t_el, t_l_mn, t_l_mx, t_l_bd, l_mn, l_mx, l_bd, g_v, g_m, ⟨v_t, v_lo, v_hi⟩, L_A, L_n, L_c, lf, B_A, B_n, B_c, bf, I⟩, ⟨hp, hr, hlf, hlo, hbf, hI, b2.1, b2.2, b7.1, b7.2, b8.1, b8.2, b9.1, b9.2, b10.1, b10.2, b13⟩, ?_⟩
  have hx : I.cells.toList = [.slice i_ty_A i_ty_n i_ty_c, .slice i_x0_A i_x0_n i_x0_c, .slice i_x1_A i_x1_n i_x1_c, .slice i_x2_A i_x2_n i_x2_c, .slice i_x3_A i_x3_n i_x3_c, .slice i_x4_A i_x4_n i_x4_c, .slice i_x5_A i_x5_n i_x5_c, .slice i_co_A i_co_n i_co_c, .slice i_ex_A i_ex_n i_ex_c] := by rw [hIc]
  show ([.int .i64 d, .int .i64 a, .int .u32 n, .slice f_t_p_A f_t_p_n f_t_p_c, .slice f_t_r_A f_t_r_n f_t_r_c, .bool f_h, .string f_s, .int .i64 f_i, .int .i64 f_b, .int .u8 t_el, .int .u32 t_l_mn, .int .u32 t_l_mx, .bool t_l_bd, .int .u32 l_mn, .int .u32 l_mx, .bool l_bd, .int .u8 g_v, .bool g_m, .int .u8 v_t, .int .u64 v_lo, .int .u64 v_hi, .slice L_A L_n L_c, .slice B_A B_n B_c] : List Value) ++ ([.slice i_ty_A i_ty_n i_ty_c, .slice i_x0_A i_x0_n i_x0_c, .slice i_x1_A i_x1_n i_x1_c, .slice i_x2_A i_x2_n i_x2_c, .slice i_x3_A i_x3_n i_x3_c, .slice i_x4_A i_x4_n i_x4_c, .slice i_x5_A i_x5_n i_x5_c, .slice i_co_A i_co_n i_co_c, .slice i_ex_A i_ex_n i_ex_c] : List Value) = _
  rw [← hx]
  rfl
theorem actl_of_rd (hws : ∀ q ∈ ws, q ≤ reachBytes) (h : Rd enc W 22 [.slice A n c] ws) : ∃ D X, ActL W A n D X ∧ n ≤ 9223372036854775806 := by
  have hs := rd_slice (sz := 32) (bytes := Tryz.prog.bytesOf 79) Tryz.underlying22 (by kernel_rfl) rfl (by omega) h
  have hb0 : 0 < Tryz.prog.bytesOf 79 := of_decide_eq_true (by kernel_rfl)
  have hlen : n ≤ 9223372036854775806 := by have h1 := hs.wt hws; have h2 := Nat.le_mul_of_pos_right n hb0; omega
  rcases Nat.eq_zero_or_pos n with h0 | hpos
  · subst h0
    exact ⟨fun _ => 0, fun _ => ⟨0, 0, none, 0, 0, fun _ => 0, none, 0, 0, fun _ => 0, false, ByteArray.empty, 0, 0, 0, 0, 0, false, 0, 0, false, 0, false, ⟨0, 0, 0⟩, none, 0, 0, fun _ => ⟨0, 0, 0⟩, none, 0, 0, fun _ => 0, ⟨none, 0, 0, fun _ => undef, fun _ => none, fun _ => 0, fun _ => 0, fun _ _ => 0, none, 0, 0, fun _ => undef, none, 0, 0, fun _ => undef, fun _ => 0, fun _ => 0⟩⟩, ⟨fun h => absurd h (by omega), fun i hi => absurd hi (by omega)⟩, hlen⟩
  obtain ⟨b, o, rfl, hel⟩ := hs.el hpos
  obtain ⟨cs0, _, _, hr0⟩ := hel 0 hpos
  obtain ⟨d0, x0, _⟩ := act_of_rd hws hr0
  have each : ∀ i, ∃ p : Int × ActP, i < n → ActOk W p.2 ∧ ∀ j, j < 32 → W.cell? ⟨b, o + i * 32 + j, none⟩ = (p.2.cells p.1)[j]? := fun i => by
    by_cases hi : i < n
    · obtain ⟨cs, _, hc, hr⟩ := hel i hi
      obtain ⟨d, x, hx, e⟩ := act_of_rd hws hr
      refine ⟨⟨d, x⟩, fun _ => ⟨hx, fun j hj => ?_⟩⟩
      rw [hc j hj, e]
      simp
    · exact ⟨⟨d0, x0⟩, fun h => absurd h hi⟩
  obtain ⟨p, hp⟩ := Classical.axiomOfChoice each
  exact ⟨fun i => (p i).1, fun i => (p i).2, ⟨fun _ => ⟨b, o, rfl, fun i hi => (hp i hi).2⟩, fun i hi => (hp i hi).1⟩, hlen⟩
end
end Go.Proofs.YtlnkdnmeikpckaaGreat
