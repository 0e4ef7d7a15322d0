/- Slices that read as a function, and the builtin copy into a row that is known whole. No condition. -/
import Derived.Test.YtlnkdnmeikpckaaBase
import Derived.Laws.CopyOwn
import Derived.Deep.RegionLaw
namespace Go.Proofs.Ytlnkdnmeikpckaa
open Go.RowKit

/-- A slice value's cells, one for an element: nothing is asked of an empty one. -/
def Sl (w : World) (A : Option Addr) (n : Nat) (v : Nat → Value) : Prop := 0 < n → ∃ b o, A = some ⟨b, o, none⟩ ∧ ∀ i, i < n → w.cell? ⟨b, o + i, none⟩ = some (v i)

/-- .. and lies below a block number. -/
def SlB (B : Nat) (w : World) (A : Option Addr) (n : Nat) (v : Nat → Value) : Prop := 0 < n → ∃ b o, A = some ⟨b, o, none⟩ ∧ b < B ∧ ∀ i, i < n → w.cell? ⟨b, o + i, none⟩ = some (v i)

section
variable {w w' : World} {A : Option Addr} {n B : Nat} {v : Nat → Value}
theorem SlB.sl (h : SlB B w A n v) : Sl w A n v := fun hn => let ⟨b, o, e, _, hc⟩ := h hn; ⟨b, o, e, hc⟩
theorem SlB.keep (h : SlB B w A n v) (hk : ∀ p : Addr, p.block < B → w'.cell? p = w.cell? p) : SlB B w' A n v := fun hn =>
  let ⟨b, o, e, hb, hc⟩ := h hn
  ⟨b, o, e, hb, fun i hi => (hk _ hb).trans (hc i hi)⟩
theorem SlB.below (h : SlB B w A n v) (hb : Below B w w') : SlB B w' A n v := h.keep fun _ hp => hb.cell hp
theorem SlB.kept {S : Nat → Prop} (h : SlB B w A n v) (hk : Kept S w w') (hB : B ≤ w.heap.size) (hS : ∀ k, S k → B ≤ k) : SlB B w' A n v :=
  h.keep fun p hp => hk.cell (Nat.lt_of_lt_of_le hp hB) (fun hs => by have := hS _ hs; omega)
theorem SlB.more {B' : Nat} (h : SlB B w A n v) (hB : B ≤ B') : SlB B' w A n v := fun hn =>
  let ⟨b, o, e, hb, hc⟩ := h hn
  ⟨b, o, e, by omega, hc⟩
theorem Sl.slb (h : Sl w A n v) : SlB w.heap.size w A n v := fun hn =>
  let ⟨b, o, e, hc⟩ := h hn
  ⟨b, o, e, World.block_lt_of_cell? _ _ (hc 0 hn), hc⟩
theorem Sl.congr {u : Nat → Value} (h : Sl w A n v) (e : ∀ i, i < n → v i = u i) : Sl w A n u := fun hn =>
  let ⟨b, o, ea, hc⟩ := h hn
  ⟨b, o, ea, fun i hi => by rw [hc i hi, e i hi]⟩
theorem Sl.nil (v : Nat → Value) : Sl w A 0 v := fun h => absurd h (by omega)
theorem Sl.take (h : Sl w A n v) {m : Nat} (hm : m ≤ n) : Sl w A m v := fun hn =>
  let ⟨b, o, e, hc⟩ := h (by omega)
  ⟨b, o, e, fun i hi => hc i (by omega)⟩
/-- x[k:h] at element size 1, its address as the model has it. -/
theorem Sl.cut (h : Sl w A n v) {k m cap : Nat} (hm : k + m ≤ n) (hc : n ≤ cap) : Sl w (if cap = k then A else A.map (·.add (k * 1))) m (fun i => v (k + i)) := fun hn => by
  obtain ⟨b, o, rfl, hcell⟩ := h (by omega)
  rw [if_neg (by omega)]
  refine ⟨b, o + k, by rw [Nat.mul_one]; show some ((⟨b, o, none⟩ : Addr).add k) = _; rw [Addr.add_lit], fun i hi => ?_⟩
  rw [show o + k + i = o + (k + i) by omega]
  exact hcell _ (by omega)
theorem Sl.cut0 (h : Sl w A n v) {m cap : Nat} (hm : m ≤ n) (hc : n ≤ cap) : Sl w (if cap = 0 then A else A.map (·.add (0 * 1))) m v :=
  (h.cut (k := 0) (m := m) (cap := cap) (by omega) hc).congr fun i _ => by rw [Nat.zero_add]
theorem Sl.of_row {b t N : Nat} (h : w.rowIs b t N v) {m : Nat} (hm : m ≤ N) : Sl w (some ⟨b, 0, none⟩) m v := fun _ => ⟨b, 0, rfl, fun i hi => by rw [Nat.zero_add]; exact h.cell (by omega)⟩
theorem Sl.of_row_at {b t N o : Nat} (h : w.rowIs b t N v) {m : Nat} (hm : o + m ≤ N) : Sl w (some ⟨b, o, none⟩) m (fun i => v (o + i)) := fun _ => ⟨b, o, rfl, fun i hi => h.cell (by omega)⟩
end

theorem setCells_row {bb t N : Nat} : ∀ (vs : List Value) (off : Nat) (w : World) (g : Nat → Value), w.rowIs bb t N g → off + vs.length ≤ N →
    (w.setCells bb off vs).rowIs bb t N (fun i => if off ≤ i ∧ i < off + vs.length then vs.getD (i - off) undef else g i)
  | [], off, w, g, h, _ => h.congr fun i _ => by rw [if_neg (by simp)]
  | v :: r, off, w, g, h, hl => by
    rw [World.setCells]
    refine (setCells_row r (off + 1) _ _ (h.set off v) (by simp at hl; omega)).congr fun i _ => ?_
    simp only [List.length_cons]
    by_cases e : i = off
    · subst e
      rw [if_neg (by omega), if_pos rfl, if_pos (by omega)]; simp
    · by_cases e2 : off + 1 ≤ i ∧ i < off + 1 + r.length
      · rw [if_pos e2, if_pos (by omega), show i - off = (i - (off + 1)) + 1 by omega]; simp
      · rw [if_neg e2, if_neg e, if_neg (by omega)]

theorem setCells_kept (bb : Nat) : ∀ (vs : List Value) (off : Nat) (w : World), Kept (S1 bb) w (w.setCells bb off vs)
  | [], _, w => Kept.refl _ w
  | v :: r, off, w => ((Kept.refl (S1 bb) w).setCell (p := ⟨bb, off, none⟩) (.inl rfl) v).trans_ (setCells_kept bb r (off + 1) _) (fun _ h => .inl h)

/-- What copy lays over a row. -/
def overlay (off m : Nat) (v g : Nat → Value) : Nat → Value := fun i => if off ≤ i ∧ i < off + m then v (i - off) else g i

structure Copied (w w' : World) (bb t N off m : Nat) (v g : Nat → Value) : Prop where
  row : w'.rowIs bb t N (overlay off m v g)
  kept : Kept (S1 bb) w w'

section
variable {P : Program}
theorem run_copy_rows (w : World) (dT sT ty elem : TypeId) (hu : P.underlying dT = some (.slice elem)) (hsz : (P.info? elem).map (·.size) = some 1)
    (D A : Option Addr) (dl dc sl sc : Nat) (bb t N off m : Nat) (g v : Nat → Value) (hm : Nat.min sl dl = m) (hrow : w.rowIs bb t N g) (hD : 0 < m → D = some ⟨bb, off, none⟩) (hA : Sl w A m v)
    (hfit : m = 0 ∨ off + m ≤ N) (h1 : ∀ i, i < m → (v i).oneCell' = true) :
    ∃ w', (Builtin.copy_ #[dT, sT] ty #[.slice D dl dc, .slice A sl sc]).run P w = .ok (.int .i64 (m : Int)) w' ∧ Copied w w' bb t N off m v g := by
  by_cases h0 : m = 0
  · subst h0
    refine ⟨w, ?_, hrow.congr fun i _ => ?_, Kept.refl _ w⟩
    · exact run_copy_none w dT sT ty elem D A dl dc sl sc hu hsz hm
    · unfold overlay; rw [if_neg (by omega)]
  · obtain rfl := hD (by omega)
    obtain ⟨b, o, rfl, hc⟩ := hA (by omega)
    have hlen : ((List.range m).map v).length = m := by simp
    have hin : ∀ x ∈ (List.range m).map v, x.oneCell' = true := by
      intro x hx
      obtain ⟨i, hi, rfl⟩ := List.mem_map.1 hx
      exact h1 i (by have := List.mem_range.1 hi; omega)
    have hrun := run_copy_cells (P := P) w dT sT ty elem bb off dl dc ⟨b, o, none⟩ sl sc ((List.range m).map v) hu hsz (by rw [hlen, hm])
      (fun j x hx => by
        have hj : j < m := by have := (List.getElem?_eq_some_iff.1 hx).1; simpa using this
        rw [Addr.add_lit, hc j (by omega)]
        have : ((List.range m).map v)[j]? = some (v j) := by simp [hj]
        rw [this] at hx; exact hx)
      (fun j hj => by rw [hlen] at hj; rw [hrow.cell (i := off + j) (by omega)]; rfl)
      (fun j _ => hrow.frozen _) hin
    rw [hlen] at hrun
    refine ⟨_, hrun, (setCells_row _ off w g hrow (by rw [hlen]; omega)).congr fun i _ => ?_, setCells_kept _ _ _ _⟩
    rw [hlen]
    unfold overlay
    by_cases e : off ≤ i ∧ i < off + m
    · rw [if_pos e, if_pos e]
      simp [List.getD, show i - off < m by omega]
    · rw [if_neg e, if_neg e]

theorem wpList_copy_rows {w : World} {ops : Array Oper} {rest : List Oper} {o : Oper} {a : Act} {Q : Exit → Act → World → Prop} (hgd : o.guard = none) (d s : Operand) (dT sT : TypeId)
    (ho : o.op = .call { callee := .builtin .copy, args := #[d, s], argTypes := #[dT, sT] }) (elem : TypeId) (hu : P.underlying dT = some (.slice elem)) (hsz : (P.info? elem).map (·.size) = some 1)
    (D A : Option Addr) (dl dc sl sc : Nat) (hd : a.eval d = .slice D dl dc) (hs : a.eval s = .slice A sl sc)
    (bb t N off m : Nat) (g v : Nat → Value) (hm : Nat.min sl dl = m) (hrow : w.rowIs bb t N g) (hD : 0 < m → D = some ⟨bb, off, none⟩) (hA : Sl w A m v) (hfit : m = 0 ∨ off + m ≤ N) (h1 : ∀ i, i < m → (v i).oneCell' = true)
    (h : ∀ w', Copied w w' bb t N off m v g → wpList P ops Q rest (a.put o.dst (.int .i64 (m : Int))) w') :
    wpList P ops Q (o :: rest) a w := by
  refine wpList_plain hgd fun K hK => ?_
  obtain ⟨w', hrun, r1⟩ := run_copy_rows (P := P) w dT sT o.type elem hu hsz D A dl dc sl sc bb t N off m g v hm hrow hD hA hfit h1
  unfold Oper.wp
  simp [execOp, ho, resolve, invoke, builtin, hd, hs, hrun, Result.andThen]
  exact hK _ _ (h w' r1)

theorem step_copy_rows {ops : Array Oper} {o : Oper} {a : Act} {w : World} {K : Act → World → Prop} {Q : Exit → Act → World → Prop} {E : Prop} (hgd : o.guard = none) (d s : Operand) (dT sT : TypeId)
    (ho : o.op = .call { callee := .builtin .copy, args := #[d, s], argTypes := #[dT, sT] }) (elem : TypeId) (hu : P.underlying dT = some (.slice elem)) (hsz : (P.info? elem).map (·.size) = some 1)
    (D A : Option Addr) (dl dc sl sc : Nat) (hd : a.eval d = .slice D dl dc) (hs : a.eval s = .slice A sl sc)
    (bb t N off m : Nat) (g v : Nat → Value) (hm : Nat.min sl dl = m) (hrow : w.rowIs bb t N g) (hD : 0 < m → D = some ⟨bb, off, none⟩) (hA : Sl w A m v) (hfit : m = 0 ∨ off + m ≤ N) (h1 : ∀ i, i < m → (v i).oneCell' = true)
    (h : ∀ w', Copied w w' bb t N off m v g → K (a.put o.dst (.int .i64 (m : Int))) w') :
    if Region.wanted o (yielded ops a.tmps) = true then Oper.wp P o a w K Q else E := by
  have hw : Region.wanted o (yielded ops a.tmps) = true := by simp [Region.wanted, hgd]
  rw [if_pos hw]
  obtain ⟨w', hrun, r1⟩ := run_copy_rows (P := P) w dT sT o.type elem hu hsz D A dl dc sl sc bb t N off m g v hm hrow hD hA hfit h1
  unfold Oper.wp
  simp [execOp, ho, resolve, invoke, builtin, hd, hs, hrun, Result.andThen]
  exact h w' r1
end

section
variable {P : Program}
/-- x[l:h]: the run, its address under a name. -/
theorem run_cut (t e : TypeId) (ht : P.underlying t = some (.slice e)) (hsz : (P.info? e).map (·.size) = some 1) (A : Option Addr) (len cap : Nat) (kl kh : IntKind) (l h : Int) (a m : Nat) (hl : l = (a : Int)) (hh : h = ((a + m : Nat) : Int)) (hc : a + m ≤ cap) :
    ∃ D, (∀ w, (Instr.slice t (.slice A len cap) (some (.int kl l)) (some (.int kh h)) none).run P w = .ok (.slice D m (cap - a)) w) ∧ D = (if cap = a then A else A.map (·.add (a * 1))) := by
  subst hl hh
  have e1 : P.elem t = e := by simp [Program.elem, ht]
  refine ⟨_, fun w => ?_, rfl⟩
  rw [run_slice_lh (P := P) w t A len cap (by rw [e1]; exact ht) kl kh _ _ (by omega) (by omega) (by omega), e1]
  cases hq : P.info? e with
  | none => simp [hq] at hsz
  | some i =>
    have hi : i.size = 1 := by simpa [hq] using hsz
    simp [sizeOf, typeInfo, hq, hi, sliced]
    omega

/-- x[:h]: likewise. -/
theorem run_cut_h (t e : TypeId) (ht : P.underlying t = some (.slice e)) (hsz : (P.info? e).map (·.size) = some 1) (A : Option Addr) (len cap : Nat) (kh : IntKind) (h : Int) (m : Nat) (hh : h = (m : Int)) (hc : m ≤ cap) :
    ∃ D, (∀ w, (Instr.slice t (.slice A len cap) none (some (.int kh h)) none).run P w = .ok (.slice D m cap) w) ∧ D = (if cap = 0 then A else A.map (·.add (0 * 1))) := by
  subst hh
  have e1 : P.elem t = e := by simp [Program.elem, ht]
  refine ⟨_, fun w => ?_, rfl⟩
  rw [run_slice_h (P := P) w t A len cap (by rw [e1]; exact ht) kh _ (by omega) (by omega), e1]
  cases hq : P.info? e with
  | none => simp [hq] at hsz
  | some i =>
    have hi : i.size = 1 := by simpa [hq] using hsz
    simp [sizeOf, typeInfo, hq, hi, sliced]

/-- x[l:]: likewise. -/
theorem run_cut_l (t e : TypeId) (ht : P.underlying t = some (.slice e)) (hsz : (P.info? e).map (·.size) = some 1) (A : Option Addr) (len cap : Nat) (kl : IntKind) (l : Int) (a : Nat) (hl : l = (a : Int)) (hc : a ≤ len) :
    ∃ D, (∀ w, (Instr.slice t (.slice A len cap) (some (.int kl l)) none none).run P w = .ok (.slice D (len - a) (cap - a)) w) ∧ D = (if cap = a then A else A.map (·.add (a * 1))) := by
  subst hl
  have e1 : P.elem t = e := by simp [Program.elem, ht]
  refine ⟨_, fun w => ?_, rfl⟩
  rw [run_slice_l (P := P) w t A len cap (by rw [e1]; exact ht) kl _ (by omega) (by omega), e1]
  cases hq : P.info? e with
  | none => simp [hq] at hsz
  | some i =>
    have hi : i.size = 1 := by simpa [hq] using hsz
    simp [sizeOf, typeInfo, hq, hi, sliced]
end

/-- A gate for an arm: the next operation writes slot N. -/
theorem gate {P : Program} {ops : Array Oper} {Q : Exit → Act → World → Prop} {o : Oper} {rest : List Oper} {a : Act} {w : World} {N : Nat} (_hd : o.dst = some N) (h : wpList P ops Q (o :: rest) a w) : wpList P ops Q (o :: rest) a w := h
end Go.Proofs.Ytlnkdnmeikpckaa
