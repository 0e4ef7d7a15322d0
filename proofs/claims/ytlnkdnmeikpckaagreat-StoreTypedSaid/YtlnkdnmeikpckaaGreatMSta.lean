/- What the proofs lean on, part 1 of St. No condition. -/
import Derived.WalkKit
import Derived.WalkSpells
import Derived.WalkLawsBesides
import Derived.BigQuiet
import Derived.Deep.QuietTactic
import Derived.Deep.OwnRows
import Derived.Deep.Draws
import Derived.Laws.OwnMore
import Derived.Laws.Rows
import Derived.Lib.Hide
import Derived.Laws.CopyOwn
import Derived.Deep.RegionLaw
import Derived.Laws.Append
import Derived.Laws.AppendOwn
import Derived.Test.YtlnkdnmeikpckaaGreatProg
import Derived.StillTail
import Derived.Deep.RegionHeld3
import Derived.Lib.SliceRun
import Derived.StillTailTactics
namespace Go.Proofs.YtlnkdnmeikpckaaGreat
open Go.RowKit
set_option maxRecDepth 100000
def Blk (w : World) (g : Nat) (t : TypeId) (cs : Array Value) : Prop := w.heap[g]? = some (.cells cs t (0, 0))
section
variable {w w' : World} {g : Nat} {t : TypeId} {cs : Array Value}
theorem lt_of_heap {w : World} {g : Nat} {o : Obj} (h : w.heap[g]? = some o) : g < w.heap.size := by
  rcases Nat.lt_or_ge g w.heap.size with hlt | hge
  · exact hlt
  · rw [Array.getElem?_eq_none hge] at h; cases h
theorem Blk.lt (h : Blk w g t cs) : g < w.heap.size := lt_of_heap h
theorem Blk.cell (h : Blk w g t cs) (i : Nat) : w.cell? ⟨g, i, none⟩ = cs[i]? := cell_of_row w g i cs t (0, 0) h
theorem Blk.frozen (h : Blk w g t cs) (i : Nat) : w.frozen? ⟨g, i, none⟩ = false := by
  unfold Blk at h
  simp [World.frozen?, h]
theorem Blk.new (w : World) (t : TypeId) (cs : Array Value) : Blk (w.alloc (.cells cs t)) w.heap.size t cs := heap_alloc_new w _
theorem Blk.new1 (w : World) (o : Obj) (t : TypeId) (cs : Array Value) : Blk ((w.alloc o).alloc (.cells cs t)) (w.heap.size + 1) t cs := by
  have h := Blk.new (w.alloc o) t cs
  have e : (w.alloc o).heap.size = w.heap.size + 1 := by simp
  rwa [e] at h
theorem Blk.drew (h : Blk w g t cs) : Blk w.drew g t cs := h
theorem Blk.alloc (h : Blk w g t cs) (o : Obj) : Blk (w.alloc o) g t cs := (Below.heap_alloc w o g h.lt).trans h
theorem Blk.set_ (h : Blk w g t cs) (i : Nat) (u : Value) : Blk (w.setCell ⟨g, i, none⟩ u) g t (cs.setIfInBounds i u) := by
  unfold Blk at h ⊢
  simp [World.setCell, Array.getElem?_modify, h]
theorem Blk.far (h : Blk w g t cs) {p : Addr} (hp : g ≠ p.block) (u : Value) : Blk (w.setCell p u) g t cs := (Below.heap_setCell w p u g hp).trans h
theorem Blk.ne_ {g' : Nat} {t' : TypeId} {cs' : Array Value} (h : Blk w g t cs) (h' : Blk w g' t' cs') (hne : t ≠ t') : g ≠ g' := by
  rintro rfl
  unfold Blk at h h'
  rw [h] at h'
  injection h' with h'
  injection h' with _ ht
  exact hne ht
end
/-- What a call keeps: all blocks that were there, but those of S. -/
structure Kept (S : Nat → Prop) (w w' : World) : Prop where
  os : w'.os = w.os
  tape : w'.tape = w.tape
  output : w'.output = w.output
  size : w.heap.size ≤ w'.heap.size
  block : ∀ k, k < w.heap.size → ¬ S k → w'.heap[k]? = w.heap[k]?
def S0 : Nat → Prop := fun _ => False
def S1 (g : Nat) : Nat → Prop := fun k => k = g
section
variable {S S' : Nat → Prop} {a w w' : World}
theorem Kept.refl (S : Nat → Prop) (w : World) : Kept S w w := ⟨rfl, rfl, rfl, Nat.le_refl _, fun _ _ _ => rfl⟩
theorem Kept.trans_ (h : Kept S a w) (k : Kept S' w w') (hs : ∀ i, S' i → S i ∨ a.heap.size ≤ i) : Kept S a w' :=
  ⟨k.os.trans h.os, k.tape.trans h.tape, k.output.trans h.output, Nat.le_trans h.size k.size, fun i hi hn =>
    (k.block i (Nat.lt_of_lt_of_le hi h.size) (fun h2 => (hs i h2).elim hn (fun h3 => by omega))).trans (h.block i hi hn)⟩
theorem Kept.trans (h : Kept S a w) (k : Kept S w w') : Kept S a w' := h.trans_ k (fun _ h => .inl h)
theorem Kept.mono (h : Kept S a w) (hs : ∀ i, S i → S' i) : Kept S' a w := ⟨h.os, h.tape, h.output, h.size, fun i hi hn => h.block i hi (fun x => hn (hs i x))⟩
theorem Kept.of0 (h : Kept S0 a w) (S : Nat → Prop) : Kept S a w := h.mono (fun _ x => x.elim)
theorem Kept.then0 (h : Kept S a w) (k : Kept S0 w w') : Kept S a w' := h.trans (k.of0 S)
theorem Kept.drew (h : Kept S a w) : Kept S a w.drew := ⟨h.os, h.tape, h.output, h.size, h.block⟩
theorem Kept.drewN (h : Kept S a w) (n : Nat) : Kept S a (w.drewN n) := ⟨h.os, h.tape, h.output, h.size, h.block⟩
theorem Kept.alloc (h : Kept S a w) (o : Obj) : Kept S a (w.alloc o) :=
  ⟨h.os, h.tape, h.output, Nat.le_trans h.size (by simp), fun i hi hn => (Below.heap_alloc w o i (Nat.lt_of_lt_of_le hi h.size)).trans (h.block i hi hn)⟩
theorem Kept.setCell (h : Kept S a w) {p : Addr} (hp : S p.block ∨ a.heap.size ≤ p.block) (u : Value) : Kept S a (w.setCell p u) :=
  ⟨h.os, h.tape, h.output, by simpa [World.setCell] using h.size, fun i hi hn => (Below.heap_setCell w p u i (by
    rintro rfl
    rcases hp with hp | hp
    · exact hn hp
    · omega)).trans (h.block i hi hn)⟩
theorem Kept.grown (h : Kept S a w) {row : Option Nat} (hg : w.grownBy w' row) (hr : ∀ k, row = some k → S k ∨ a.heap.size ≤ k) : Kept S a w' :=
  h.trans_ (S' := fun k => row = some k) ⟨hg.os, hg.tape, hg.output, hg.size, fun i hi hn => hg.block i hi (fun e => hn e.symm)⟩ hr
theorem Kept.blk {g : Nat} {t : TypeId} {cs : Array Value} (h : Kept S a w) (hb : Blk a g t cs) (hn : ¬ S g) : Blk w g t cs := (h.block g hb.lt hn).trans hb
theorem Kept.row {g : Nat} {t : TypeId} {n : Nat} {f : Nat → Value} (h : Kept S a w) (hb : a.rowIs g t n f) (hn : ¬ S g) : w.rowIs g t n f := hb.of_block (h.block g hb.lt hn)
theorem Kept.cell (h : Kept S a w) {p : Addr} (hp : p.block < a.heap.size) (hn : ¬ S p.block) : w.cell? p = a.cell? p := World.cell?_of_block (w := a) (h.block p.block hp hn)
end
theorem Row.ne {w : World} {g g' : Nat} {t t' : TypeId} {n : Nat} {f : Nat → Value} {cs' : Array Value} (h : w.rowIs g t n f) (h' : Blk w g' t' cs') (hne : t ≠ t') : g ≠ g' := by
  obtain ⟨c, hb, _, _⟩ := h
  exact Blk.ne_ (t := t) hb h' hne
theorem ret_int {k : IntKind} {a b : Int} (h : a = b) : Ending.returned (.int k a) = .returned (.int k b) := by rw [h]
theorem ret_bool {a b : Bool} (h : a = b) : Ending.returned (.bool a) = .returned (.bool b) := by rw [h]
end Go.Proofs.YtlnkdnmeikpckaaGreat
namespace Go.Proofs.YtlnkdnmeikpckaaGreat
open Go.RowKit
set_option maxRecDepth 100000
/-- A slice value's cells, one for an element: nothing is asked of an empty one. -/
def Sl (w : World) (A : Option Addr) (n : Nat) (v : Nat → Value) : Prop := 0 < n → ∃ b o, A = some ⟨b, o, none⟩ ∧ ∀ i, i < n → w.cell? ⟨b, o + i, none⟩ = some (v i)
/-- .. and lies below a block number. -/
def SlB (B : Nat) (w : World) (A : Option Addr) (n : Nat) (v : Nat → Value) : Prop := 0 < n → ∃ b o, A = some ⟨b, o, none⟩ ∧ b < B ∧ ∀ i, i < n → w.cell? ⟨b, o + i, none⟩ = some (v i)
section
variable {w w' : World} {A : Option Addr} {n B : Nat} {v : Nat → Value}
theorem SlB.sl (h : SlB B w A n v) : Sl w A n v := fun hn => let ⟨b, o, e, _, hc⟩ := h hn; ⟨b, o, e, hc⟩
theorem SlB.keep (h : SlB B w A n v) (hk : ∀ p : Addr, p.block < B → w'.cell? p = w.cell? p) : SlB B w' A n v := fun hn =>
  let ⟨b, o, e, hb, hc⟩ := h hn
  ⟨b, o, e, hb, fun i hi => (hk _ hb).trans (hc i hi)⟩
theorem SlB.kept {S : Nat → Prop} (h : SlB B w A n v) (hk : Kept S w w') (hB : B ≤ w.heap.size) (hS : ∀ k, S k → B ≤ k) : SlB B w' A n v :=
  h.keep fun p hp => hk.cell (Nat.lt_of_lt_of_le hp hB) (fun hs => by have := hS _ hs; omega)
theorem Sl.slb (h : Sl w A n v) : SlB w.heap.size w A n v := fun hn =>
  let ⟨b, o, e, hc⟩ := h hn
  ⟨b, o, e, World.block_lt_of_cell? _ _ (hc 0 hn), hc⟩
theorem Sl.congr {u : Nat → Value} (h : Sl w A n v) (e : ∀ i, i < n → v i = u i) : Sl w A n u := fun hn =>
  let ⟨b, o, ea, hc⟩ := h hn
  ⟨b, o, ea, fun i hi => by rw [hc i hi, e i hi]⟩
theorem Sl.nil (v : Nat → Value) : Sl w A 0 v := fun h => absurd h (by omega)
theorem Sl.take (h : Sl w A n v) {m : Nat} (hm : m ≤ n) : Sl w A m v := fun hn =>
  let ⟨b, o, e, hc⟩ := h (by omega)
  ⟨b, o, e, fun i hi => hc i (by omega)⟩
theorem Sl.of_row {b t N : Nat} (h : w.rowIs b t N v) {m : Nat} (hm : m ≤ N) : Sl w (some ⟨b, 0, none⟩) m v := fun _ => ⟨b, 0, rfl, fun i hi => by rw [Nat.zero_add]; exact h.cell (by omega)⟩
end
theorem setCells_row {bb t N : Nat} : ∀ (vs : List Value) (off : Nat) (w : World) (g : Nat → Value), w.rowIs bb t N g → off + vs.length ≤ N →
    (w.setCells bb off vs).rowIs bb t N (fun i => if off ≤ i ∧ i < off + vs.length then vs.getD (i - off) undef else g i)
  | [], off, w, g, h, _ => h.congr fun i _ => by rw [if_neg (by simp)]
  | v :: r, off, w, g, h, hl => by
    rw [World.setCells]
    refine (setCells_row r (off + 1) _ _ (h.set off v) (by simp at hl; omega)).congr fun i _ => ?_
    simp only [List.length_cons]
    by_cases e : i = off
    · subst e
      rw [if_neg (by omega), if_pos rfl, if_pos (by omega)]; simp
    · by_cases e2 : off + 1 ≤ i ∧ i < off + 1 + r.length
      · rw [if_pos e2, if_pos (by omega), show i - off = (i - (off + 1)) + 1 by omega]; simp
      · rw [if_neg e2, if_neg e, if_neg (by omega)]
theorem setCells_kept (bb : Nat) : ∀ (vs : List Value) (off : Nat) (w : World), Kept (S1 bb) w (w.setCells bb off vs)
  | [], _, w => Kept.refl _ w
  | v :: r, off, w => ((Kept.refl (S1 bb) w).setCell (p := ⟨bb, off, none⟩) (.inl rfl) v).trans_ (setCells_kept bb r (off + 1) _) (fun _ h => .inl h)
/-- What copy lays over a row. -/
def overlay (off m : Nat) (v g : Nat → Value) : Nat → Value := fun i => if off ≤ i ∧ i < off + m then v (i - off) else g i
structure Copied (w w' : World) (bb t N off m : Nat) (v g : Nat → Value) : Prop where
  row : w'.rowIs bb t N (overlay off m v g)
  kept : Kept (S1 bb) w w'
section
variable {P : Program}
theorem run_copy_rows (w : World) (dT sT ty elem : TypeId) (hu : P.underlying dT = some (.slice elem)) (hsz : (P.info? elem).map (·.size) = some 1)
    (D A : Option Addr) (dl dc sl sc : Nat) (bb t N off m : Nat) (g v : Nat → Value) (hm : Nat.min sl dl = m) (hrow : w.rowIs bb t N g) (hD : 0 < m → D = some ⟨bb, off, none⟩) (hA : Sl w A m v)
    (hfit : m = 0 ∨ off + m ≤ N) (h1 : ∀ i, i < m → (v i).oneCell' = true) :
    ∃ w', (Builtin.copy_ #[dT, sT] ty #[.slice D dl dc, .slice A sl sc]).run P w = .ok (.int .i64 (m : Int)) w' ∧ Copied w w' bb t N off m v g := by
  by_cases h0 : m = 0
  · subst h0
    refine ⟨w, ?_, hrow.congr fun i _ => ?_, Kept.refl _ w⟩
    · exact run_copy_none w dT sT ty elem D A dl dc sl sc hu hsz hm
    · unfold overlay; rw [if_neg (by omega)]
  · obtain rfl := hD (by omega)
    obtain ⟨b, o, rfl, hc⟩ := hA (by omega)
    have hlen : ((List.range m).map v).length = m := by simp
    have hin : ∀ x ∈ (List.range m).map v, x.oneCell' = true := by
      intro x hx
      obtain ⟨i, hi, rfl⟩ := List.mem_map.1 hx
      exact h1 i (by have := List.mem_range.1 hi; omega)
    have hrun := run_copy_cells (P := P) w dT sT ty elem bb off dl dc ⟨b, o, none⟩ sl sc ((List.range m).map v) hu hsz (by rw [hlen, hm])
      (fun j x hx => by
        have hj : j < m := by have := (List.getElem?_eq_some_iff.1 hx).1; simpa using this
        rw [Addr.add_lit, hc j (by omega)]
        have : ((List.range m).map v)[j]? = some (v j) := by simp [hj]
        rw [this] at hx; exact hx)
      (fun j hj => by rw [hlen] at hj; rw [hrow.cell (i := off + j) (by omega)]; rfl)
      (fun j _ => hrow.frozen _) hin
    rw [hlen] at hrun
    refine ⟨_, hrun, (setCells_row _ off w g hrow (by rw [hlen]; omega)).congr fun i _ => ?_, setCells_kept _ _ _ _⟩
    rw [hlen]
    unfold overlay
    by_cases e : off ≤ i ∧ i < off + m
    · rw [if_pos e, if_pos e]
      simp [List.getD, show i - off < m by omega]
    · rw [if_neg e, if_neg e]
theorem wpList_copy_rows {w : World} {ops : Array Oper} {rest : List Oper} {o : Oper} {a : Act} {Q : Exit → Act → World → Prop} (hgd : o.guard = none) (d s : Operand) (dT sT : TypeId)
    (ho : o.op = .call { callee := .builtin .copy, args := #[d, s], argTypes := #[dT, sT] }) (elem : TypeId) (hu : P.underlying dT = some (.slice elem)) (hsz : (P.info? elem).map (·.size) = some 1)
    (D A : Option Addr) (dl dc sl sc : Nat) (hd : a.eval d = .slice D dl dc) (hs : a.eval s = .slice A sl sc)
    (bb t N off m : Nat) (g v : Nat → Value) (hm : Nat.min sl dl = m) (hrow : w.rowIs bb t N g) (hD : 0 < m → D = some ⟨bb, off, none⟩) (hA : Sl w A m v) (hfit : m = 0 ∨ off + m ≤ N) (h1 : ∀ i, i < m → (v i).oneCell' = true)
    (h : ∀ w', Copied w w' bb t N off m v g → wpList P ops Q rest (a.put o.dst (.int .i64 (m : Int))) w') :
    wpList P ops Q (o :: rest) a w := by
  refine wpList_plain hgd fun K hK => ?_
  obtain ⟨w', hrun, r1⟩ := run_copy_rows (P := P) w dT sT o.type elem hu hsz D A dl dc sl sc bb t N off m g v hm hrow hD hA hfit h1
  unfold Oper.wp
  simp [execOp, ho, resolve, invoke, builtin, hd, hs, hrun, Result.andThen]
  exact hK _ _ (h w' r1)
end
section
variable {P : Program}
end
/-- A gate for an arm: the next operation writes slot N. -/
theorem gate {P : Program} {ops : Array Oper} {Q : Exit → Act → World → Prop} {o : Oper} {rest : List Oper} {a : Act} {w : World} {N : Nat} (_hd : o.dst = some N) (h : wpList P ops Q (o :: rest) a w) : wpList P ops Q (o :: rest) a w := h
end Go.Proofs.YtlnkdnmeikpckaaGreat
namespace Go.Proofs.YtlnkdnmeikpckaaGreat
open Go.RowKit
set_option maxRecDepth 100000
/-- An owned slice: nil, or the head of a block from 'base' on; its cells are F's; all cells of its block are Q's. -/
def Own (w : World) (base e size : Nat) (Q : Value → Prop) (v : Value) (n : Nat) (F : Nat → Value) : Prop :=
  (v = .slice none 0 0 ∧ n = 0) ∨
  ∃ g cap fr, v = .slice (some ⟨g, 0, none⟩) n cap ∧ base ≤ g ∧ n ≤ cap ∧ cap ≤ maxLen ∧ w.rowIs g e (cap * size) fr ∧ (∀ i, i < n * size → fr i = F i) ∧ (∀ i, i < cap * size → Q (fr i))
def IsByte (v : Value) : Prop := ∃ c : UInt8, v = .int .u8 (c.toNat : Int)
def byteV (f : Nat → UInt8) : Nat → Value := fun i => .int .u8 ((f i).toNat : Int)
theorem byteV_is (f : Nat → UInt8) (i : Nat) : IsByte (byteV f i) := ⟨f i, rfl⟩
/-- A function's cells as a list. -/
def rng (n : Nat) (F : Nat → Value) : List Value := (List.range n).map F
theorem length_rng (n : Nat) (F : Nat → Value) : (rng n F).length = n := by simp [rng]
theorem rng_get {n : Nat} {F : Nat → Value} {j : Nat} (h : j < n) : (rng n F)[j]? = some (F j) := by simp [rng, h]
theorem rng_some {n : Nat} {F : Nat → Value} {j : Nat} {u : Value} (h : (rng n F)[j]? = some u) : j < n ∧ u = F j := by
  have hj : j < n := by have := (List.getElem?_eq_some_iff.1 h).1; rwa [length_rng] at this
  rw [rng_get hj] at h
  exact ⟨hj, (Option.some.inj h).symm⟩
theorem rng_mem {n : Nat} {F : Nat → Value} {P : Value → Prop} (h : ∀ i, i < n → P (F i)) : ∀ u ∈ rng n F, P u := by
  intro u hu
  obtain ⟨i, hi, rfl⟩ := List.mem_map.1 hu
  exact h i (List.mem_range.1 hi)
/-- One list of cells behind another one. -/
def after (n : Nat) (F V : Nat → Value) : Nat → Value := fun i => if i < n then F i else V (i - n)
section
variable {w w' : World} {base e size n : Nat} {Q : Value → Prop} {v : Value} {F : Nat → Value}
theorem Own.nil (w : World) (base e size : Nat) (Q : Value → Prop) (F : Nat → Value) : Own w base e size Q (.slice none 0 0) 0 F := .inl ⟨rfl, rfl⟩
theorem Own.congr {G : Nat → Value} (h : Own w base e size Q v n F) (he : ∀ i, i < n * size → F i = G i) : Own w base e size Q v n G := by
  rcases h with h | ⟨g, cap, fr, h1, h2, h3, h4, h5, h6, h7⟩
  · exact .inl h
  · exact .inr ⟨g, cap, fr, h1, h2, h3, h4, h5, fun i hi => (h6 i hi).trans (he i hi), h7⟩
theorem Own.mono {b : Nat} (h : Own w base e size Q v n F) (hb : b ≤ base) : Own w b e size Q v n F := by
  rcases h with h | ⟨g, cap, fr, h1, h2, r⟩
  · exact .inl h
  · exact .inr ⟨g, cap, fr, h1, by omega, r⟩
theorem Own.kept {S : Nat → Prop} (h : Own w base e size Q v n F) (hk : Kept S w w') (hS : ∀ g, v.ownBlock = some g → ¬ S g) : Own w' base e size Q v n F := by
  rcases h with h | ⟨g, cap, fr, rfl, h2, h3, h4, h5, r⟩
  · exact .inl h
  · exact .inr ⟨g, cap, fr, rfl, h2, h3, h4, hk.row h5 (hS g rfl), r⟩
theorem Own.lt (h : Own w base e size Q v n F) : ∀ g, v.ownBlock = some g → base ≤ g ∧ g < w.heap.size := by
  rcases h with ⟨rfl, _⟩ | ⟨g, cap, fr, rfl, h2, h3, h4, h5, r⟩
  · intro g h; simp [Value.ownBlock] at h
  · intro g' h
    obtain rfl : g = g' := by simpa [Value.ownBlock] using h
    exact ⟨h2, h5.lt⟩
theorem Own.ne_blk {g t : Nat} {cs : Array Value} (h : Own w base e size Q v n F) (hb : Blk w g t cs) (hne : e ≠ t) : v.ownBlock ≠ some g := by
  intro he
  rcases h with ⟨rfl, _⟩ | ⟨g', cap, fr, rfl, _, _, _, hr, _⟩
  · simp [Value.ownBlock] at he
  · have : g' = g := by simpa [Value.ownBlock] using he
    exact Row.ne hr hb hne this
/-- The value, written out. -/
theorem Own.out (h : Own w base e size Q v n F) : ∃ A c, v = .slice A n c ∧ n ≤ c ∧ c ≤ maxLen ∧ Sl w A (n * size) F := by
  rcases h with ⟨rfl, rfl⟩ | ⟨g, cap, fr, rfl, h2, h3, h4, h5, h6, h7⟩
  · exact ⟨none, 0, rfl, Nat.le_refl _, Nat.zero_le _, fun h => absurd h (by omega)⟩
  · exact ⟨_, cap, rfl, h3, h4, (Sl.of_row h5 (Nat.mul_le_mul_right _ h3)).congr h6⟩
end
theorem zeroCells_get (z : Array Value) (n j : Nat) (hz : 0 < z.size) (h : j < n * z.size) : ∃ u, (Builtin.zeroCells z n)[j]? = some u ∧ u ∈ z := by
  refine ⟨z[j % z.size]!, ?_, ?_⟩
  · simp [Builtin.zeroCells, h]
  · have hj : j % z.size < z.size := Nat.mod_lt _ hz
    rw [getElem!_pos z _ hj]
    exact Array.getElem_mem hj
section
variable {P : Program}
theorem run_append_all (w : World) (base t ty e : TypeId) (i : TypeInfo) (z : Value) (size bytes : Nat) (ht : P.underlying t = some (.slice e)) (hi : P.info? e = some i) (hz : i.zero = some z)
    (hsize : i.size = size) (hby : i.bytes = bytes) (hzs : z.cells.size = size) (hsz : 0 < size) (Q : Value → Prop) (hQz : ∀ u ∈ z.cells, Q u)
    (v : Value) (n : Nat) (F : Nat → Value) (hown : Own w base e size Q v n F)
    (A : Option Addr) (m c : Nat) (V : Nat → Value) (hA : Sl w A (m * size) V) (hA0 : A = none → m = 0) (hQ : ∀ j, j < m * size → Q (V j)) (h1 : ∀ j, j < m * size → (V j).oneCell' = true)
    (h63 : n + m ≤ maxLen) (hbytes : (n + m) * bytes ≤ 140737488355328) (hbase : base ≤ w.heap.size) :
    ∃ v' w', (Builtin.append_ #[t, t] ty #[v, .slice A m c]).run P w = .ok v' w' ∧ Own w' base e size Q v' (n + m) (after (n * size) F V) ∧ w.grownBy w' v.ownBlock ∧
      (v'.ownBlock = v.ownBlock ∨ v'.ownBlock = some w.heap.size) ∧ (v' = .slice none 0 0 → v = .slice none 0 0 ∧ m = 0) := by
  subst hsize
  subst hby
  have hsmall : n + m ≤ 9223372036854775807 := by simp only [maxLen] at h63; omega
  by_cases hm : m = 0
  · subst hm
    have hcongr : ∀ j, j < n * i.size → F j = after (n * i.size) F V j := fun j hj => by unfold after; rw [if_pos hj]
    refine ⟨v, w, ?_, hown.congr hcongr, ⟨rfl, rfl, rfl, Nat.le_refl _, fun _ _ _ => rfl⟩, .inl rfl, fun h => ⟨h, rfl⟩⟩
    rcases hown with ⟨rfl, rfl⟩ | ⟨g, cap, fr, rfl, _, hnc, _⟩
    · cases A <;> simp [Builtin.append_, run_underlying ht, sizeOf, typeInfo, hi, Builtin.lenOf, Builtin.firstCells, loadCells, loadCellsFrom]
    · cases A <;> simp [Builtin.append_, run_underlying ht, sizeOf, typeInfo, hi, Builtin.lenOf, Builtin.firstCells, hnc, storeCells, loadCells, loadCellsFrom]
  · have hpos : 0 < m * i.size := Nat.mul_pos (by omega) hsz
    obtain ⟨b, o, rfl, hc⟩ := hA hpos
    have hl : (rng (m * i.size) V).length = m * i.size := length_rng _ _
    have hnews : ∀ j u, (rng (m * i.size) V)[j]? = some u → w.cell? ((⟨b, o, none⟩ : Addr).add j) = some u := by
      intro j u hu
      obtain ⟨hj, rfl⟩ := rng_some hu
      rw [Addr.add_lit]
      exact hc j hj
    have h1' : ∀ u ∈ rng (m * i.size) V, u.oneCell' = true := rng_mem h1
    -- a new array, whatever was there before
    have grown : ∀ (old : Nat) (xs : List Value), xs.length = n * i.size → (∀ j, j < n * i.size → xs[j]? = some (F j)) → (∀ j, j < n * i.size → Q (F j)) → ∀ (row : Option Nat),
        Own (w.drew.alloc (.cells (xs.toArray ++ (rng (m * i.size) V).toArray ++ Builtin.zeroCells z.cells (grownCap w (n + m) old e - (n + m))) e)) base e i.size Q
          (.slice (some ⟨w.heap.size, 0, none⟩) (n + m) (grownCap w (n + m) old e)) (n + m) (after (n * i.size) F V) ∧
        w.grownBy (w.drew.alloc (.cells (xs.toArray ++ (rng (m * i.size) V).toArray ++ Builtin.zeroCells z.cells (grownCap w (n + m) old e - (n + m))) e)) row := by
      intro old xs hxl hxs hxq row
      have hge := grownCap_ge w (n + m) old e
      have hcm : grownCap w (n + m) old e ≤ maxLen := grownCap_le_maxLen w (n + m) old e h63
      generalize hC : grownCap w (n + m) old e = C at *
      have hCs : C * i.size = (n + m) * i.size + (C - (n + m)) * i.size := by rw [← Nat.add_mul]; congr 1; omega
      have hnm : (n + m) * i.size = n * i.size + m * i.size := Nat.add_mul _ _ _
      have hsz2 : (xs.toArray ++ (rng (m * i.size) V).toArray ++ Builtin.zeroCells z.cells (C - (n + m))).size = C * i.size := by
        simp only [Array.size_append, List.size_toArray, size_zeroCells, hzs, hxl, hl]
        omega
      have hcell : ∀ j, j < C * i.size → ∃ u, (xs.toArray ++ (rng (m * i.size) V).toArray ++ Builtin.zeroCells z.cells (C - (n + m)))[j]? = some u ∧ (j < (n + m) * i.size → u = after (n * i.size) F V j) ∧ Q u := by
        intro j hj
        by_cases hj1 : j < n * i.size
        · refine ⟨F j, ?_, fun _ => by unfold after; rw [if_pos hj1], hxq j hj1⟩
          rw [Array.append_assoc, Array.getElem?_append_left (by simpa [hxl] using hj1)]
          simpa using hxs j hj1
        · by_cases hj2 : j < (n + m) * i.size
          · refine ⟨V (j - n * i.size), ?_, fun _ => by unfold after; rw [if_neg hj1], hQ _ (by omega)⟩
            rw [Array.getElem?_append_left (by simp [hxl, hl]; omega), Array.getElem?_append_right (by simp [hxl]; omega)]
            simp only [List.size_toArray, hxl, List.getElem?_toArray]
            exact rng_get (by omega)
          · obtain ⟨u, hu, hmem⟩ := zeroCells_get z.cells (C - (n + m)) (j - (n + m) * i.size) (by omega) (by rw [hzs]; omega)
            refine ⟨u, ?_, fun h => absurd h hj2, hQz u hmem⟩
            rw [Array.getElem?_append_right (by simp [hxl, hl]; omega)]
            simp only [Array.size_append, List.size_toArray, hxl, hl]
            rw [← hnm]
            exact hu
      refine ⟨.inr ⟨w.heap.size, C, fun j => ((xs.toArray ++ (rng (m * i.size) V).toArray ++ Builtin.zeroCells z.cells (C - (n + m)))[j]?).getD undef, rfl, hbase, hge, hcm, ⟨_, heap_alloc_new w.drew _, hsz2, fun j hj => ?_⟩, fun j hj => ?_, fun j hj => ?_⟩, ⟨rfl, rfl, rfl, by simp, fun k hk _ => Below.heap_alloc w.drew _ k hk⟩⟩
      · obtain ⟨u, hu, _⟩ := hcell j hj
        simp only [hu, Option.getD_some]
      · obtain ⟨u, hu, he, _⟩ := hcell j (by omega)
        simp only [hu, Option.getD_some]
        exact he hj
      · obtain ⟨u, hu, _, hq⟩ := hcell j hj
        simp only [hu, Option.getD_some]
        exact hq
    rcases hown with ⟨rfl, rfl⟩ | ⟨g, cap, fr, rfl, hbg, hnc, hcm, hrow, hF, hQF⟩
    · have hr := run_append_nil (P := P) w t ty e i z ht hi hz ⟨b, o, none⟩ m c _ hl hnews (by omega) (by omega) (by have hb := hbytes; simp only [Nat.zero_add] at hb; omega)
      have hgr := grown 0 [] (by simp) (fun j hj => absurd hj (by omega)) (fun j hj => absurd hj (by omega)) (Value.ownBlock (.slice none 0 0))
      simp only [Nat.zero_add, Array.empty_append] at hgr ⊢
      exact ⟨_, _, hr, hgr.1, hgr.2, .inr rfl, fun h => by cases h⟩
    · obtain ⟨cur, hg, hcs, hcur⟩ := hrow
      by_cases hroom : n + m ≤ cap
      · have hmul : (n + m) * i.size ≤ cap * i.size := Nat.mul_le_mul_right _ hroom
        have hnm : (n + m) * i.size = n * i.size + m * i.size := Nat.add_mul _ _ _
        have hfit : n * i.size + (rng (m * i.size) V).length ≤ cur.size := by rw [hl, hcs]; omega
        have hmin : min (n * i.size) (cap * i.size) = n * i.size := by omega
        have hr := run_append_room (P := P) w t ty e i ht hi g n cap cur hg ⟨b, o, none⟩ m c _ hl hnews h1' hroom hfit
        refine ⟨_, _, hr, .inr ⟨g, cap, fun j => if j < n * i.size then fr j else if j < (n + m) * i.size then V (j - n * i.size) else fr j, rfl, hbg, hroom, hcm, ⟨_, setRow_heap w g cur _ e _ hg, ?_, fun j hj => ?_⟩, fun j hj => ?_, fun j hj => ?_⟩, ⟨rfl, rfl, rfl, by simp, fun k _ hk => setRow_other w g k _ (fun e => hk (by simp [Value.ownBlock, e]))⟩, .inl rfl, fun h => by cases h⟩
        · simp only [List.size_toArray, List.length_append, List.length_take, List.length_drop, Array.length_toList, hl, hcs]
          omega
        · simp only [List.getElem?_toArray, hl]
          by_cases hj1 : j < n * i.size
          · rw [if_pos hj1, List.append_assoc, List.getElem?_append_left (by simp only [List.length_take, Array.length_toList, hcs, hmin]; exact hj1), List.getElem?_take, if_pos hj1]
            simpa using hcur j hj
          · rw [if_neg hj1]
            by_cases hj2 : j < (n + m) * i.size
            · rw [if_pos hj2, List.getElem?_append_left (by simp only [List.length_append, List.length_take, Array.length_toList, hcs, hmin, hl]; omega), List.getElem?_append_right (by simp only [List.length_take, Array.length_toList, hcs, hmin]; omega)]
              simp only [List.length_take, Array.length_toList, hcs]
              rw [hmin]
              exact rng_get (by omega)
            · rw [if_neg hj2, List.getElem?_append_right (by simp only [List.length_append, List.length_take, Array.length_toList, hcs, hmin, hl]; omega)]
              simp only [List.length_append, List.length_take, Array.length_toList, hl, hcs, List.getElem?_drop]
              rw [show n * i.size + m * i.size + (j - (min (n * i.size) (cap * i.size) + m * i.size)) = j by omega]
              simpa using hcur j hj
        · by_cases hj1 : j < n * i.size
          · simp only [after]; rw [if_pos hj1, if_pos hj1]; exact hF j hj1
          · simp only [after]; rw [if_neg hj1, if_neg hj1, if_pos hj]
        · by_cases hj1 : j < n * i.size
          · show Q (if _ then _ else _); rw [if_pos hj1]; exact hQF j hj
          · show Q (if _ then _ else _); rw [if_neg hj1]
            by_cases hj2 : j < (n + m) * i.size
            · rw [if_pos hj2]; exact hQ _ (by omega)
            · rw [if_neg hj2]; exact hQF j hj
      · have hmul : n * i.size ≤ cap * i.size := Nat.mul_le_mul_right _ hnc
        have hxs : ∀ j, j < n * i.size → (rng (n * i.size) F)[j]? = some (F j) := fun j hj => rng_get hj
        have holds : ∀ j u, (rng (n * i.size) F)[j]? = some u → w.cell? ((⟨g, 0, none⟩ : Addr).add j) = some u := by
          intro j u hu
          obtain ⟨hj, rfl⟩ := rng_some hu
          rw [Addr.add_lit, Nat.zero_add, cell_of_row w g j cur e (0, 0) hg, hcur j (by omega), hF j hj]
        have hr := run_append_grow (P := P) w t ty e i z ht hi hz ⟨g, 0, none⟩ n cap _ (length_rng _ _) holds ⟨b, o, none⟩ m c _ hl hnews (by omega) (by omega) (growslice_fits (by omega) hbytes)
        have hgr := grown cap _ (length_rng _ _) hxs (fun j hj => by rw [← hF j hj]; exact hQF j (by omega)) (Value.ownBlock (.slice (some ⟨g, 0, none⟩) n cap))
        exact ⟨_, _, hr, hgr.1, hgr.2, .inr rfl, fun h => by cases h⟩
end
structure Appended (w w' : World) (base e size : Nat) (Q : Value → Prop) (v v' : Value) (k : Nat) (G : Nat → Value) (m : Nat) : Prop where
  own : Own w' base e size Q v' k G
  grown : w.grownBy w' v.ownBlock
  block : v'.ownBlock = v.ownBlock ∨ v'.ownBlock = some w.heap.size
  nil : v' = .slice none 0 0 → v = .slice none 0 0 ∧ m = 0
section
variable {P : Program}
theorem wpList_append_all {w : World} {ops : Array Oper} {rest : List Oper} {o : Oper} {a : Act} {Q' : Exit → Act → World → Prop} (hgd : o.guard = none) (s x : Operand) (t : TypeId)
    (ho : o.op = .call { callee := .builtin .append, args := #[s, x], argTypes := #[t, t] })
    (base e : TypeId) (z : Value) (size bytes : Nat) (ht : P.underlying t = some (.slice e)) (hinfo : (P.info? e).map (fun i => (i.zero, i.size, i.bytes)) = some (some z, size, bytes))
    (hzs : z.cells.size = size) (hsz : 0 < size) (Q : Value → Prop) (hQz : ∀ u ∈ z.cells, Q u)
    (v : Value) (n : Nat) (F : Nat → Value) (hs : a.eval s = v) (hown : Own w base e size Q v n F)
    (A : Option Addr) (m c : Nat) (V : Nat → Value) (hx : a.eval x = .slice A m c) (hA : Sl w A (m * size) V) (hA0 : A = none → m = 0) (hQ : ∀ j, j < m * size → Q (V j)) (h1 : ∀ j, j < m * size → (V j).oneCell' = true)
    (h63 : n + m ≤ maxLen) (hbytes : (n + m) * bytes ≤ 140737488355328) (hbase : base ≤ w.heap.size)
    (h : ∀ v' w', Appended w w' base e size Q v v' (n + m) (after (n * size) F V) m → wpList P ops Q' rest (a.put o.dst v') w') : wpList P ops Q' (o :: rest) a w := by
  refine wpList_plain hgd fun K hK => ?_
  obtain ⟨i, hi, hzz⟩ := Option.map_eq_some_iff.1 hinfo
  simp only [Prod.mk.injEq] at hzz
  obtain ⟨v', w', hr, h2, h3, h4, h5⟩ := run_append_all (P := P) w base t o.type e i z size bytes ht hi hzz.1 hzz.2.1 hzz.2.2 hzs hsz Q hQz v n F hown A m c V hA hA0 hQ h1 h63 hbytes hbase
  unfold Oper.wp execOp
  simp only [ho, resolve, invoke, builtin, Sem.run_bind, Sem.run_pure, Result.andThen_ok, List.map_toArray, List.map_cons, List.map_nil, hs, hx, hr]
  exact hK _ _ (h v' w' ⟨h2, h3, h4, h5⟩)
end
section
variable {P : Program}
/-- append as one step of a region that draws. -/
theorem step_append_all {ops : Array Oper} {o : Oper} {a : Act} {w : World} {K : Act → World → Prop} {Q' : Exit → Act → World → Prop} {E : Prop} (hgd : o.guard = none) (s x : Operand) (t : TypeId)
    (ho : o.op = .call { callee := .builtin .append, args := #[s, x], argTypes := #[t, t] })
    (base e : TypeId) (z : Value) (size bytes : Nat) (ht : P.underlying t = some (.slice e)) (hinfo : (P.info? e).map (fun i => (i.zero, i.size, i.bytes)) = some (some z, size, bytes))
    (hzs : z.cells.size = size) (hsz : 0 < size) (Q : Value → Prop) (hQz : ∀ u ∈ z.cells, Q u)
    (v : Value) (n : Nat) (F : Nat → Value) (hs : a.eval s = v) (hown : Own w base e size Q v n F)
    (A : Option Addr) (m c : Nat) (V : Nat → Value) (hx : a.eval x = .slice A m c) (hA : Sl w A (m * size) V) (hA0 : A = none → m = 0) (hQ : ∀ j, j < m * size → Q (V j)) (h1 : ∀ j, j < m * size → (V j).oneCell' = true)
    (h63 : n + m ≤ maxLen) (hbytes : (n + m) * bytes ≤ 140737488355328) (hbase : base ≤ w.heap.size)
    (h : ∀ v' w', Appended w w' base e size Q v v' (n + m) (after (n * size) F V) m → K (a.put o.dst v') w') :
    if Region.wanted o (yielded ops a.tmps) = true then Oper.wp P o a w K Q' else E := by
  have hw : Region.wanted o (yielded ops a.tmps) = true := by simp [Region.wanted, hgd]
  rw [if_pos hw]
  obtain ⟨i, hi, hzz⟩ := Option.map_eq_some_iff.1 hinfo
  simp only [Prod.mk.injEq] at hzz
  obtain ⟨v', w', hr, h2, h3, h4, h5⟩ := run_append_all (P := P) w base t o.type e i z size bytes ht hi hzz.1 hzz.2.1 hzz.2.2 hzs hsz Q hQz v n F hown A m c V hA hA0 hQ h1 h63 hbytes hbase
  unfold Oper.wp execOp
  simp only [ho, resolve, invoke, builtin, Sem.run_bind, Sem.run_pure, Result.andThen_ok, List.map_toArray, List.map_cons, List.map_nil, hs, hx, hr]
  exact h v' w' ⟨h2, h3, h4, h5⟩
end
section
variable {P : Program}
end
end Go.Proofs.YtlnkdnmeikpckaaGreat
namespace Go.Proofs.YtlnkdnmeikpckaaGreat
open Go.RowKit
set_option maxRecDepth 100000
section
variable {P : Program}
end
section
variable {w w' : World} {A : Option Addr} {n : Nat} {v : Nat → Value}
end
/-- A value: its type and its bits. -/
structure V3 where
  t : Int
  lo : Int
  hi : Int
def vpart (x : V3) (j : Nat) : Value := if j = 0 then .int .u8 x.t else if j = 1 then .int .u64 x.lo else .int .u64 x.hi
theorem vpart_one (x : V3) (j : Nat) : (vpart x j).oneCell' = true := by
  unfold vpart; split
  · rfl
  · split <;> rfl
/-- Values in a row of cells. -/
def vcell (f : Nat → V3) : Nat → Value := fun i => vpart (f (i / 3)) (i % 3)
theorem vcell_0 (f : Nat → V3) (i : Nat) : vcell f (i * 3) = .int .u8 (f i).t := by
  show vpart (f (i * 3 / 3)) (i * 3 % 3) = _
  rw [show i * 3 / 3 = i by omega, show i * 3 % 3 = 0 by omega]; rfl
theorem vcell_1 (f : Nat → V3) (i : Nat) : vcell f (i * 3 + 1) = .int .u64 (f i).lo := by
  show vpart (f ((i * 3 + 1) / 3)) ((i * 3 + 1) % 3) = _
  rw [show (i * 3 + 1) / 3 = i by omega, show (i * 3 + 1) % 3 = 1 by omega]; rfl
theorem vcell_2 (f : Nat → V3) (i : Nat) : vcell f (i * 3 + 2) = .int .u64 (f i).hi := by
  show vpart (f ((i * 3 + 2) / 3)) ((i * 3 + 2) % 3) = _
  rw [show (i * 3 + 2) / 3 = i by omega, show (i * 3 + 2) % 3 = 2 by omega]; rfl
theorem vcell_one (f : Nat → V3) (i : Nat) : (vcell f i).oneCell' = true := vpart_one _ _
theorem vcell_congr {f g : Nat → V3} {n : Nat} (h : ∀ i, i < n → f i = g i) : ∀ i, i < n * 3 → vcell f i = vcell g i := fun i hi => by
  show vpart (f (i / 3)) (i % 3) = vpart (g (i / 3)) (i % 3)
  rw [h (i / 3) (by omega)]
/-- One list of values behind another. -/
def afterV (n : Nat) (f v : Nat → V3) : Nat → V3 := fun i => if i < n then f i else v (i - n)
theorem after_vcell (n : Nat) (f v : Nat → V3) : after (n * 3) (vcell f) (vcell v) = vcell (afterV n f v) := by
  funext i
  show (if i < n * 3 then vpart (f (i / 3)) (i % 3) else vpart (v ((i - n * 3) / 3)) ((i - n * 3) % 3)) = vpart (if i / 3 < n then f (i / 3) else v (i / 3 - n)) (i % 3)
  by_cases h : i < n * 3
  · rw [if_pos h, if_pos (by omega)]
  · rw [if_neg h, if_neg (by omega), show (i - n * 3) % 3 = i % 3 by omega, show (i - n * 3) / 3 = i / 3 - n by omega]
/-- What copy lays over values. -/
def overV (f : Nat → V3) (a n : Nat) (v : Nat → V3) : Nat → V3 := fun i => if a ≤ i ∧ i < a + n then v (i - a) else f i
theorem overlay_vcell (f : Nat → V3) (a n : Nat) (v : Nat → V3) : overlay (a * 3) (n * 3) (vcell v) (vcell f) = vcell (overV f a n v) := by
  funext i
  show (if a * 3 ≤ i ∧ i < a * 3 + n * 3 then vpart (v ((i - a * 3) / 3)) ((i - a * 3) % 3) else vpart (f (i / 3)) (i % 3)) = vpart (if a ≤ i / 3 ∧ i / 3 < a + n then v (i / 3 - a) else f (i / 3)) (i % 3)
  by_cases h : a * 3 ≤ i ∧ i < a * 3 + n * 3
  · rw [if_pos h, if_pos (by omega), show (i - a * 3) % 3 = i % 3 by omega, show (i - a * 3) / 3 = i / 3 - a by omega]
  · rw [if_neg h, if_neg (by omega)]
end Go.Proofs.YtlnkdnmeikpckaaGreat
namespace Go.Proofs.YtlnkdnmeikpckaaGreat
open Go
section
variable {P : Program} {ops : Array Oper} {Q : Exit → Act → World → Prop} {md : Region.Mode} {S : World → Prop} {late : List Nat}
/-- No late operation has come up yet. -/
def early (late : List Nat) (listed : Array Bool) : Bool := late.all fun t => !listed.getD t true
theorem early_set {i : Nat} {listed : Array Bool} (hi : i ∉ late) : early late (listed.setIfInBounds i true) = early late listed := by
  unfold early
  apply Bool.eq_iff_iff.2
  simp only [List.all_eq_true]
  constructor
  · intro h t ht
    have := h t ht
    rwa [getD_set_ne true (show i ≠ t from fun e => hi (by rw [e]; exact ht))] at this
  · intro h t ht
    rw [getD_set_ne true (show i ≠ t from fun e => hi (by rw [e]; exact ht))]
    exact h t ht
/-- Whatever order is picked, and S holds till the first late operation. -/
def wpAnyR (P : Program) (md : Region.Mode) (ops : Array Oper) (Q : Exit → Act → World → Prop) (S : World → Prop) (late : List Nat) : Nat → Array Bool → Act → World → Prop
  | 0, listed, a, w => Region.ready md ops listed = [] ∧ Q .normal a w
  | fuel + 1, listed, a, w => (Region.ready md ops listed = [] → Q .normal a w) ∧ ∀ i ∈ Region.ready md ops listed, wpOp P ops Q i (fun a' w' => (early late (listed.setIfInBounds i true) = true → S w') ∧ wpAnyR P md ops Q S late fuel (listed.setIfInBounds i true) a' w') a w
theorem wpAny_of_R : ∀ (fuel : Nat) (listed : Array Bool) (a : Act) (w : World), wpAnyR P md ops Q S late fuel listed a w → wpAny P md ops Q fuel listed a w
  | 0, _, _, _, h => h
  | fuel + 1, _, _, _, h => ⟨h.1, fun i hi => wpOp_mono (fun a' w' h' => wpAny_of_R fuel _ a' w' h'.2) (h.2 i hi)⟩
theorem wpAnyR_first {i : Nat} {oi : Oper} {v : Value} (hi : ops[i]? = some oi) (hil : i ∉ late) (hsel : ∀ (j : Nat) (o : Oper) cs b, ops[j]? = some o → o.op ≠ .select cs b)
    (hQ : ∀ c a w, Q (.panic c) (a.put oi.dst v) w → Q (.panic c) a w) :
    ∀ (fuel : Nat) (listed : Array Bool) (a : Act) (w : World), early late listed = true →
      (∀ t ∈ late, listed.getD t true = false → Region.waitsFor md ops t i = true) →
      (∀ j oj, ops[j]? = some oj → j ≠ i → listed.getD j true = false → (∀ e ∈ oj.after, Region.binds md e = true → e.on ≠ i) → oi.apart ops oj = true) →
      i ∈ Region.ready md ops listed → YieldsIf P ops S oi v a → S w →
      wpAnyR P md ops Q S late fuel (listed.setIfInBounds i true) (a.put oi.dst v) w → wpAnyR P md ops Q S late (fuel + 1) listed a w := by
  intro fuel
  induction fuel with
  | zero =>
    intro listed a w _ _ _ hr hy hS H
    refine ⟨fun h => (by rw [h] at hr; cases hr), fun j hj => ?_⟩
    by_cases hji : j = i
    · subst hji; exact hy.wpOp hi hS ⟨fun _ => hS, H⟩
    · have := ready_mono hj hji
      rw [H.1] at this
      cases this
  | succ fuel ih =>
    intro listed a w hear hlate hfree hr hy hS H
    have hun := (mem_ready.1 hr).1
    refine ⟨fun h => (by rw [h] at hr; cases hr), fun j hj => ?_⟩
    by_cases hji : j = i
    · subst hji; exact hy.wpOp hi hS ⟨fun _ => hS, H⟩
    · have h1 := H.2 j (ready_mono hj hji)
      obtain ⟨hjun, oj, hoj, hall⟩ := mem_ready.1 hj
      have hnot : ∀ e ∈ oj.after, Region.binds md e = true → e.on ≠ i := fun e he hb heq => by
        have h1 := hall e he hb
        rw [heq, getD_both hun] at h1
        cases h1
      have hjl : j ∉ late := fun hl => by
        obtain ⟨oj', hoj', e, he, hb, hon⟩ := Region.waitsFor_spec (hlate j hl hjun)
        have : oj' = oj := Option.some.inj (hoj'.symm.trans hoj)
        subst this
        exact hnot e he hb hon
      have h2 := wpOp_putIf hoj (hfree j oj hoj hji hjun hnot) (fun cs b => hsel i oi cs b hi) (fun cs b => hsel j oj cs b hoj) hQ hy h1
      have hset : ∀ k, (listed.setIfInBounds j true).getD k true = false → listed.getD k true = false := fun k hun => by
        by_cases hjk : j = k
        · subst hjk; exact hjun
        · rw [getD_set_ne true hjk] at hun; exact hun
      have hej : early late (listed.setIfInBounds j true) = true := by rw [early_set hjl]; exact hear
      have heij : early late ((listed.setIfInBounds i true).setIfInBounds j true) = true := by rw [early_set hjl, early_set hil]; exact hear
      refine wpOp_mono (fun a' w' h3 => ⟨fun _ => h3.2.1 heij, ih (listed.setIfInBounds j true) a' w' hej (fun t ht hu => hlate t ht (hset t hu)) (fun k ok hk hki hun hno => hfree k ok hk hki (hset k hun) hno) (ready_mono hr (Ne.symm hji)) h3.1 (h3.2.1 heij) ?_⟩) h2
      rw [Array.setIfInBounds_comm _ _ hji]
      exact h3.2.2
theorem wpAnyR_first_any {i : Nat} {oi : Oper} {v : Value} (hi : ops[i]? = some oi) (hil : i ∉ late) (hsel : ∀ (j : Nat) (o : Oper) cs b, ops[j]? = some o → o.op ≠ .select cs b)
    (hQ : ∀ c a w, Q (.panic c) (a.put oi.dst v) w → Q (.panic c) a w) :
    ∀ (fuel : Nat) (listed : Array Bool) (a : Act) (w : World), (early late listed = true → S w) →
      (∀ j oj, ops[j]? = some oj → j ≠ i → listed.getD j true = false → (∀ e ∈ oj.after, Region.binds md e = true → e.on ≠ i) → oi.apart ops oj = true) →
      i ∈ Region.ready md ops listed → Yields P ops oi v a →
      wpAnyR P md ops Q S late fuel (listed.setIfInBounds i true) (a.put oi.dst v) w → wpAnyR P md ops Q S late (fuel + 1) listed a w := by
  intro fuel
  induction fuel with
  | zero =>
    intro listed a w hS _ hr hy H
    refine ⟨fun h => (by rw [h] at hr; cases hr), fun j hj => ?_⟩
    by_cases hji : j = i
    · subst hji; exact hy.wpOp hi ⟨fun h => hS (by rwa [early_set hil] at h), H⟩
    · have := ready_mono hj hji
      rw [H.1] at this
      cases this
  | succ fuel ih =>
    intro listed a w hS hfree hr hy H
    have hun := (mem_ready.1 hr).1
    refine ⟨fun h => (by rw [h] at hr; cases hr), fun j hj => ?_⟩
    by_cases hji : j = i
    · subst hji; exact hy.wpOp hi ⟨fun h => hS (by rwa [early_set hil] at h), H⟩
    · have h1 := H.2 j (ready_mono hj hji)
      obtain ⟨hjun, oj, hoj, hall⟩ := mem_ready.1 hj
      have hnot : ∀ e ∈ oj.after, Region.binds md e = true → e.on ≠ i := fun e he hb heq => by
        have h1 := hall e he hb
        rw [heq, getD_both hun] at h1
        cases h1
      have h2 := wpOp_put hoj (hfree j oj hoj hji hjun hnot) (fun cs b => hsel i oi cs b hi) (fun cs b => hsel j oj cs b hoj) hQ hy h1
      have hset : ∀ k, (listed.setIfInBounds j true).getD k true = false → listed.getD k true = false := fun k hun => by
        by_cases hjk : j = k
        · subst hjk; exact hjun
        · rw [getD_set_ne true hjk] at hun; exact hun
      have heq : early late ((listed.setIfInBounds i true).setIfInBounds j true) = early late (listed.setIfInBounds j true) := by rw [Array.setIfInBounds_comm _ _ (Ne.symm hji), early_set hil]
      refine wpOp_mono (fun a' w' h3 => ⟨fun h => h3.2.1 (by rw [heq]; exact h), ih (listed.setIfInBounds j true) a' w' (fun h => h3.2.1 (by rw [heq]; exact h)) (fun k ok hk hki hun hno => hfree k ok hk hki (hset k hun) hno) (ready_mono hr (Ne.symm hji)) h3.1 ?_⟩) h2
      rw [Array.setIfInBounds_comm _ _ hji]
      exact h3.2.2
def lateC (md : Region.Mode) (ops : Array Oper) (late : List Nat) (i : Nat) (listed : Array Bool) : Bool := early late listed && !late.contains i && late.all fun t => listed.getD t true || Region.waitsFor md ops t i
theorem wpAnyR_take (i : Nat) {oi : Oper} {v : Value} {fuel : Nat} {listed : Array Bool} {a : Act} {w : World} (hi : ops[i]? = some oi)
    (hs : Region.noSelect ops = true) (hl : lateC md ops late i listed = true) (hf : Region.free md ops listed i = true) (hr : (Region.ready md ops listed).contains i = true)
    (hQ : ∀ c a w, Q (.panic c) (a.put oi.dst v) w → Q (.panic c) a w) (hS : S w) (hy : Region.wanted oi (yielded ops a.tmps) = true ∧ ∀ w, S w → (execOp a.eval oi).run P w = .ok (.value v) w)
    (h : wpAnyR P md ops Q S late fuel (listed.setIfInBounds i true) (a.put oi.dst v) w) : wpAnyR P md ops Q S late (fuel + 1) listed a w := by
  simp only [lateC, Bool.and_eq_true, Bool.not_eq_true', List.contains_eq_mem, decide_eq_false_iff_not] at hl
  exact wpAnyR_first hi hl.1.2 (Region.noSelect_spec hs) hQ fuel listed a w hl.1.1 (fun t ht hu => by
    have := List.all_eq_true.1 hl.2 t ht
    rw [hu] at this
    simpa using this) (Region.free_spec hi hf) (by simpa using hr) (.inl hy) hS h
/-- Not wanted: it is passed by. -/
theorem wpAnyR_skip (i : Nat) {oi : Oper} {fuel : Nat} {listed : Array Bool} {a : Act} {w : World} (hi : ops[i]? = some oi)
    (hs : Region.noSelect ops = true) (hl : (!late.contains i) = true) (hf : Region.free md ops listed i = true) (hr : (Region.ready md ops listed).contains i = true)
    (hQ : ∀ c a w, Q (.panic c) (a.put oi.dst undef) w → Q (.panic c) a w) (hS : early late listed = true → S w) (hy : Region.wanted oi (yielded ops a.tmps) = false)
    (h : wpAnyR P md ops Q S late fuel (listed.setIfInBounds i true) (a.put oi.dst undef) w) : wpAnyR P md ops Q S late (fuel + 1) listed a w :=
  wpAnyR_first_any hi (by simpa using hl) (Region.noSelect_spec hs) hQ fuel listed a w hS (Region.free_spec hi hf) (by simpa using hr) (.inr ⟨hy, rfl⟩) h
theorem wpAnyR_late (i : Nat) {oi : Oper} {v : Value} {fuel : Nat} {listed : Array Bool} {a : Act} {w : World} (hi : ops[i]? = some oi)
    (hs : Region.noSelect ops = true) (hl : (!late.contains i) = true) (hf : Region.free md ops listed i = true) (hr : (Region.ready md ops listed).contains i = true)
    (hQ : ∀ c a w, Q (.panic c) (a.put oi.dst v) w → Q (.panic c) a w) (hS : early late listed = true → S w) (hy : Region.wanted oi (yielded ops a.tmps) = true ∧ ∀ w, (execOp a.eval oi).run P w = .ok (.value v) w)
    (h : wpAnyR P md ops Q S late fuel (listed.setIfInBounds i true) (a.put oi.dst v) w) : wpAnyR P md ops Q S late (fuel + 1) listed a w :=
  wpAnyR_first_any hi (by simpa using hl) (Region.noSelect_spec hs) hQ fuel listed a w hS (Region.free_spec hi hf) (by simpa using hr) (.inl hy) h
/-- One operation alone may come up. -/
theorem wpAnyR_one (i : Nat) {oi : Oper} {fuel : Nat} {listed : Array Bool} {a : Act} {w : World} (hi : ops[i]? = some oi) (hr : Region.ready md ops listed = [i])
    (h : ∀ K' : Act → World → Prop, Shut (∀ a w, (early late (listed.setIfInBounds i true) = true → S w) → wpAnyR P md ops Q S late fuel (listed.setIfInBounds i true) a w → K' a w) → if Region.wanted oi (yielded ops a.tmps) = true then Oper.wp P oi a w K' Q else K' (a.put oi.dst undef) w) :
    wpAnyR P md ops Q S late (fuel + 1) listed a w :=
  ⟨fun h0 => (by rw [hr] at h0; cases h0), fun j hj => by
    rw [hr] at hj
    rw [List.mem_singleton.1 hj]
    exact wpOp_step hi (fun K' hK => h K' (fun a w hS hW => hK a w ⟨hS, hW⟩))⟩
/-- One of two that may come up, and the other. -/
theorem wpAnyR_two (i k : Nat) {oi ok : Oper} {fuel : Nat} {listed : Array Bool} {a : Act} {w : World} (hi : ops[i]? = some oi) (hk : ops[k]? = some ok) (hr : Region.ready md ops listed = [i, k])
    (h : ∀ K' : Act → World → Prop, Shut (∀ a w, (early late (listed.setIfInBounds i true) = true → S w) → wpAnyR P md ops Q S late fuel (listed.setIfInBounds i true) a w → K' a w) → if Region.wanted oi (yielded ops a.tmps) = true then Oper.wp P oi a w K' Q else K' (a.put oi.dst undef) w)
    (h2 : ∀ K' : Act → World → Prop, Shut (∀ a w, (early late (listed.setIfInBounds k true) = true → S w) → wpAnyR P md ops Q S late fuel (listed.setIfInBounds k true) a w → K' a w) → if Region.wanted ok (yielded ops a.tmps) = true then Oper.wp P ok a w K' Q else K' (a.put ok.dst undef) w) :
    wpAnyR P md ops Q S late (fuel + 1) listed a w :=
  ⟨fun h0 => (by rw [hr] at h0; cases h0), fun j hj => by
    rw [hr] at hj
    rcases List.mem_cons.1 hj with e | e
    · rw [e]
      exact wpOp_step hi (fun K' hK => h K' (fun a w hS hW => hK a w ⟨hS, hW⟩))
    · rw [List.mem_singleton.1 e]
      exact wpOp_step hk (fun K' hK => h2 K' (fun a w hS hW => hK a w ⟨hS, hW⟩))⟩
theorem wpAnyR_done {listed : Array Bool} {a : Act} {w : World} (hr : Region.ready md ops listed = []) (h : Q .normal a w) : ∀ fuel, wpAnyR P md ops Q S late fuel listed a w
  | 0 => ⟨hr, h⟩
  | _ + 1 => ⟨fun _ => h, by rw [hr]; simp⟩
theorem wp_region_R {id : Nat} {a : Act} {w : World} (S : World → Prop) (late : List Nat) (hm : P.follows .mixedOrders = true)
    (h : wpAnyR P .any ops Q S late ops.size (Array.replicate ops.size false) a w.drew) : (Code.region id ops true).wp P Q a w :=
  wp_region_any hm (wpAny_of_R _ _ _ _ h)
end
end Go.Proofs.YtlnkdnmeikpckaaGreat
namespace Go.Proofs.YtlnkdnmeikpckaaGreat
open Go
section
variable {P : Program} {ops : Array Oper} {Q : Exit → Act → World → Prop} {md : Region.Mode} {S : World → Prop} {late : List Nat}
def takeB (md : Region.Mode) (ops : Array Oper) (late : List Nat) (i : Nat) (listed : Array Bool) : Bool := Region.noSelect ops && (lateC md ops late i listed && (Region.free md ops listed i && (Region.ready md ops listed).contains i))
def skipB (md : Region.Mode) (ops : Array Oper) (late : List Nat) (i : Nat) (listed : Array Bool) : Bool := Region.noSelect ops && ((!late.contains i) && (Region.free md ops listed i && (Region.ready md ops listed).contains i))
theorem tkR (i : Nat) {oi : Oper} {v : Value} {fuel : Nat} {listed : Array Bool} {a : Act} {w : World} (hi : ops[i]? = some oi) (hS : S w) (hy : Region.wanted oi (yielded ops a.tmps) = true ∧ ∀ w, S w → (execOp a.eval oi).run P w = .ok (.value v) w)
    (h : wpAnyR P md ops Q S late fuel (listed.setIfInBounds i true) (a.put oi.dst v) w) (hc : takeB md ops late i listed = true := by kernel_rfl)
    (hQ : ∀ c a w, Q (.panic c) (a.put oi.dst v) w → Q (.panic c) a w := by exact fun _ _ _ h => h) : wpAnyR P md ops Q S late (fuel + 1) listed a w := by
  simp only [takeB, Bool.and_eq_true] at hc
  exact wpAnyR_take i hi hc.1 hc.2.1 hc.2.2.1 hc.2.2.2 hQ hS hy h
theorem skR (i : Nat) {oi : Oper} {fuel : Nat} {listed : Array Bool} {a : Act} {w : World} (hi : ops[i]? = some oi) (hS : early late listed = true → S w) (hy : Region.wanted oi (yielded ops a.tmps) = false)
    (h : wpAnyR P md ops Q S late fuel (listed.setIfInBounds i true) (a.put oi.dst undef) w) (hc : skipB md ops late i listed = true := by kernel_rfl)
    (hQ : ∀ c a w, Q (.panic c) (a.put oi.dst undef) w → Q (.panic c) a w := by exact fun _ _ _ h => h) : wpAnyR P md ops Q S late (fuel + 1) listed a w := by
  simp only [skipB, Bool.and_eq_true] at hc
  exact wpAnyR_skip i hi hc.1 hc.2.1 hc.2.2.1 hc.2.2.2 hQ hS hy h
end
theorem zq1 {α : Type} {l : List α} {i : Nat} (h : i < l.toArray.size) : l.toArray[i] = l[i]'(by simpa using h) := List.getElem_toArray h
theorem zq2 {α : Type} {a : α} {l : List α} (h : 0 < (a :: l).length) : (a :: l)[0] = a := rfl
theorem zq3 {α : Type} {a : α} {l : List α} {i : Nat} (h : i + 1 < (a :: l).length) : (a :: l)[i + 1] = l[i]'(Nat.lt_of_succ_lt_succ h) := rfl
theorem zq4 {α : Type} {l : List α} {i : Nat} {a : α} : l.toArray.setIfInBounds i a = (l.set i a).toArray := List.setIfInBounds_toArray ..
theorem zq5 {α : Type} {l : List α} {x a : α} : (x :: l).set 0 a = a :: l := List.set_cons_zero ..
theorem zq6 {α : Type} {l : List α} {x a : α} {i : Nat} : (x :: l).set (i + 1) a = x :: l.set i a := List.set_cons_succ ..
end Go.Proofs.YtlnkdnmeikpckaaGreat
namespace Go.Proofs.YtlnkdnmeikpckaaGreat
open Go.RowKit
set_option maxRecDepth 100000
theorem Tryz.infoT : (Tryz.prog.info? 27).map (fun i => (i.zero, i.size, i.bytes)) = some (some (.int .u8 0), 1, 1) := by kernel_rfl
theorem keep0 {w w' : World} {p : Addr} {v : Value} (hk : Kept S0 w w') (h : w.cell? p = some v) : w'.cell? p = some v := (hk.cell (World.block_lt_of_cell? _ _ h) (fun x => x)).trans h
set_option maxHeartbeats 400000 in
theorem off_made (sb : Nat) (w : World) (h0 : w.cell? ⟨sb, 0, none⟩ = some (.bool true)) :
    Calls Tryz.prog 31 #[.pointer (some ⟨sb, 0, none⟩)] w fun e w' => e = .returned (.bool false) ∧ w = w' := by
  go_enter Tryz.func31, Tryz.ntmps31
  go_wp2
  go_ret
  exact ⟨rfl, rfl⟩
/-- A store's cells. -/
def stCells (f t m g e d i : Value) : Array Value := #[.bool true, f, t, m, g, e, d, i]
set_option maxHeartbeats 400000 in
theorem news_any (w : World) : Calls Tryz.prog 29 #[] w fun e w' => e = .returned (.pointer (some ⟨w.heap.size, 0, none⟩)) ∧ Blk w' w.heap.size 132 (stCells (.slice none 0 0) (.slice none 0 0) (.slice none 0 0) (.slice none 0 0) (.slice none 0 0) (.slice none 0 0) (.slice none 0 0)) ∧ Kept S0 w w' ∧ w'.heap.size = w.heap.size + 1 := by
  go_enter Tryz.func29, Tryz.ntmps29
  go_wp2
  go_ret
  exact ⟨rfl, Blk.new w _ _, (Kept.refl S0 w).alloc _, by simp⟩
/-- Is it a value's type? -/
def isB (t : Int) : Bool := decide (t = 127 ∨ t = 126 ∨ t = 125 ∨ t = 124 ∨ t = 123 ∨ t = 112 ∨ t = 111)
set_option maxHeartbeats 800000 in
theorem is_any (t : Int) (w : World) : Calls Tryz.prog 121 #[.int .u8 t] w fun e w' => e = .returned (.bool (isB t)) ∧ w = w' := by
  by_cases h : t = 127 ∨ t = 126 ∨ t = 125 ∨ t = 124 ∨ t = 123 ∨ t = 112 ∨ t = 111
  · rcases h with rfl | rfl | rfl | rfl | rfl | rfl | rfl
    all_goals
      go_enter Tryz.func121, Tryz.ntmps121
      go_wp2
      go_ret
      exact ⟨rfl, rfl⟩
  · have HB := Lib.hid (show isB t = false by unfold isB; exact decide_eq_false h)
    have h1 : (t == 127) = false := beq_eq_false_iff_ne.2 (fun e => h (.inl e))
    have h2 : (t == 126) = false := beq_eq_false_iff_ne.2 (fun e => h (.inr (.inl e)))
    have h3 : (t == 125) = false := beq_eq_false_iff_ne.2 (fun e => h (.inr (.inr (.inl e))))
    have h4 : (t == 124) = false := beq_eq_false_iff_ne.2 (fun e => h (.inr (.inr (.inr (.inl e)))))
    have h5 : (t == 123) = false := beq_eq_false_iff_ne.2 (fun e => h (.inr (.inr (.inr (.inr (.inl e))))))
    have h6 : (t == 112) = false := beq_eq_false_iff_ne.2 (fun e => h (.inr (.inr (.inr (.inr (.inr (.inl e)))))))
    have h7 : (t == 111) = false := beq_eq_false_iff_ne.2 (fun e => h (.inr (.inr (.inr (.inr (.inr (.inr e)))))))
    clear h
    go_enter Tryz.func121, Tryz.ntmps121
    go_wp2
    go_ret
    exact ⟨ret_bool (by rw [HB.out]), rfl⟩
theorem vals1_any (t : Int) (w : World) : Calls Tryz.prog 120 #[.int .u8 t] w fun e w' => e = .returned (.bool (!isB t)) ∧ w = w' := by
  go_enter Tryz.func120, Tryz.ntmps120
  go_wp2_with fail
  refine (is_any t _).mono ?_
  rintro e w1 ⟨rfl, rfl⟩
  go_wp2_with fail
  go_ret
  exact ⟨rfl, rfl⟩
/-- Is there one among them that is no value's type? -/
def badT (v : Nat → UInt8) (n : Nat) : Bool := (List.range n).any fun i => !isB ((v i).toNat : Int)
theorem badT_true {v : Nat → UInt8} {n i : Nat} (hi : i < n) (h : isB ((v i).toNat : Int) = false) : badT v n = true := by
  unfold badT; rw [List.any_eq_true]; exact ⟨i, List.mem_range.2 hi, by rw [h]; rfl⟩
theorem badT_false {v : Nat → UInt8} {n : Nat} (h : ∀ i, i < n → isB ((v i).toNat : Int) = true) : badT v n = false := by
  unfold badT; rw [List.any_eq_false]; intro i hi; rw [h i (List.mem_range.1 hi)]; simp
set_option maxHeartbeats 1600000 in
theorem index_vals (A : Option Addr) (n c : Nat) (v : Nat → UInt8) (w : World) (hA : Sl w A n (byteV v)) (hn : n ≤ 9223372036854775806) :
    Calls Tryz.prog 131 #[.slice A n c, .func (.func 120) #[] #[]] w fun e w' => ∃ r : Int, e = .returned (.int .i64 r) ∧ decide (0 ≤ r) = badT v n ∧ w = w' := by
  have HA := Lib.hid hA
  clear hA
  go_enter Tryz.func131, Tryz.ntmps131
  go_wp2_with fail
  go_loopw [8] (fun i wr => ∃ k : Nat, k ≤ n ∧ i = .int .i64 (k : Int) ∧ (∀ j, j < k → isB ((v j).toNat : Int) = true) ∧ wr = w) (fun i _ => n - (intOf i).toNat)
  case atStart => exact ⟨0, by omega, rfl, fun j hj => absurd hj (by omega), rfl⟩
  case round =>
    obtain ⟨k, hk, rfl, hfit, rfl⟩ := hrel
    by_cases hlt : k < n
    · obtain ⟨b1, o1, hAe, hc⟩ := HA.out (by omega)
      subst hAe
      have d0 := hc k hlt
      unfold byteV at d0
      have HI := Lib.hid (vals1_any ((v k).toNat : Int) wr)
      have HF := Lib.hid hfit
      clear hc hfit
      go_wp2_with fail
      refine HI.out.mono ?_
      rintro e w1 ⟨rfl, rfl⟩
      cases hfk : isB ((v k).toNat : Int) with
      | true =>
        have HFK := Lib.hid hfk
        clear hfk
        go_wp2_with fail
        go_roundw
        case rel => exact ⟨k + 1, by omega, by go_num, fun j hj => by
          rcases Nat.lt_or_ge j k with h | h
          · exact HF.out j h
          · obtain rfl : j = k := by omega
            exact HFK.out, by trivial⟩
        case measure => simp [intOf]; omega
      | false =>
        have HFK := Lib.hid hfk
        clear hfk
        go_wp2_with fail
        go_ret
        exact ⟨k, rfl, by rw [badT_true hlt HFK.out]; exact decide_eq_true (by omega), rfl⟩
    · obtain rfl : k = n := by omega
      have HF := Lib.hid hfit
      clear hfit
      go_wp2_with fail
      go_ret
      exact ⟨-1, rfl, by rw [badT_false HF.out]; rfl, rfl⟩
theorem containst_any (A : Option Addr) (n c : Nat) (v : Nat → UInt8) (w : World) (hA : Sl w A n (byteV v)) (hn : n ≤ 9223372036854775806) :
    Calls Tryz.prog 119 #[.slice A n c, .func (.func 120) #[] #[]] w fun e w' => e = .returned (.bool (badT v n)) ∧ w = w' := by
  have HI := Lib.hid (index_vals A n c v w hA hn)
  clear hA
  go_enter Tryz.func119, Tryz.ntmps119
  go_wp2_with fail
  refine HI.out.mono ?_
  rintro e w1 ⟨r, rfl, hr, rfl⟩
  have HR := Lib.hid hr
  clear hr
  go_wp2_with fail
  go_ret
  exact ⟨ret_bool HR.out, rfl⟩
theorem vals_any (A : Option Addr) (n c : Nat) (v : Nat → UInt8) (w : World) (hA : Sl w A n (byteV v)) (hn : n ≤ 9223372036854775806) :
    Calls Tryz.prog 85 #[.slice A n c] w fun e w' => e = .returned (.bool (!badT v n)) ∧ w = w' := by
  have HC := Lib.hid (containst_any A n c v w hA hn)
  clear hA
  go_enter Tryz.func85, Tryz.ntmps85
  go_wp2_with fail
  refine HC.out.mono ?_
  rintro e w1 ⟨rfl, rfl⟩
  go_wp2_with fail
  go_ret
  exact ⟨rfl, rfl⟩
set_option maxHeartbeats 800000 in
theorem clonet_any (A : Option Addr) (n c : Nat) (v : Nat → UInt8) (w : World) (hA : Sl w A n (byteV v)) (hA0 : A = none → n = 0 ∧ c = 0) (hn : n ≤ 140737488351232) :
    Calls Tryz.prog 79 #[.slice A n c] w fun e w' => ∃ y, e = .returned y ∧ Own w' w.heap.size 27 1 IsByte y n (byteV v) ∧ Kept S0 w w' := by
  have q := fun (w : World) (a : Option Addr) (n c n' c' : Nat) => Lib.run_eql_slice_nil (P := Tryz.prog) w 36 27 a n c n' c' Tryz.underlying36
  cases A with
  | none =>
    obtain ⟨rfl, rfl⟩ := hA0 rfl
    clear hA hA0
    go_enter Tryz.func79, Tryz.ntmps79
    go_wp2
    go_ret
    exact ⟨_, rfl, Own.nil _ _ _ _ _ _, Kept.refl _ _⟩
  | some ad =>
    have hown : Own (w.alloc (.cells #[] 27)) w.heap.size 27 1 IsByte (.slice (some ⟨w.heap.size, 0, none⟩) 0 0) 0 (byteV v) :=
      .inr ⟨w.heap.size, 0, fun _ => undef, rfl, Nat.le_refl _, Nat.le_refl _, Nat.zero_le _, ⟨#[], heap_alloc_new w _, rfl, fun i hi => absurd hi (by omega)⟩, fun i hi => absurd hi (by omega), fun i hi => absurd hi (by omega)⟩
    have hsl : Sl (w.alloc (.cells #[] 27)) (some ad) (n * 1) (byteV v) := by
      rw [Nat.mul_one]
      exact (hA.slb.kept ((Kept.refl S0 w).alloc _) (Nat.le_refl _) (fun _ h => h.elim)).sl
    clear hA hA0
    go_enter Tryz.func79, Tryz.ntmps79
    go_wp2_with (at_builtin; refine wpList_append_all rfl (.tmp 5) (.tmp 6) 36 rfl w.heap.size 27 (.int .u8 0) 1 1 Tryz.underlying36 Tryz.infoT rfl (by decide) IsByte (fun u hu => by simp [Value.cells] at hu; exact hu ▸ ⟨0, rfl⟩) _ 0 (byteV v) rfl hown (some ad) n c (byteV v) rfl hsl (fun h => by cases h) (fun j _ => byteV_is v j) (fun _ _ => rfl) (by unfold maxLen; omega) (by omega) (by simp) ?_)
    intro v' w' ha
    have H1 := Lib.hid ha
    obtain ⟨A', c', rfl, _⟩ := ha.own.out
    have hk : Kept S0 w w' := ((Kept.refl S0 w).alloc (.cells #[] 27)).grown ha.grown (fun k hk => by cases hk; exact .inr (Nat.le_refl _))
    have HK := Lib.hid hk
    clear hk ha
    go_wp2
    go_ret
    refine ⟨_, rfl, ?_, HK.out⟩
    exact H1.out.own.congr (fun i hi => by simp [after])
/-- A list of types that can be read. -/
structure TSl (w : World) (A : Option Addr) (n c : Nat) (v : Nat → UInt8) : Prop where
  sl : Sl w A n (byteV v)
  z : A = none → n = 0 ∧ c = 0
  sz : n ≤ 140737488351232
theorem TSl.kept {w w' : World} {A : Option Addr} {n c : Nat} {v : Nat → UInt8} (h : TSl w A n c v) (hk : Kept S0 w w') : TSl w' A n c v :=
  ⟨(h.sl.slb.kept hk (Nat.le_refl _) (fun _ e => e.elim)).sl, h.z, h.sz⟩
theorem tsl_own {w : World} {B : Nat} {A : Option Addr} {n c : Nat} {v : Nat → UInt8} (h : Own w B 27 1 IsByte (.slice A n c) n (byteV v)) (hn : n ≤ 140737488351232) : TSl w A n c v := by
  rcases h with ⟨e, rfl⟩ | ⟨g, cap, fr, e, h1, h2, h3, h4, h5, h6⟩
  · cases e
    exact ⟨Sl.nil _, fun _ => ⟨rfl, rfl⟩, hn⟩
  · cases e
    simp only [Nat.mul_one] at h4 h5
    exact ⟨(Sl.of_row h4 h2).congr h5, (fun h => by cases h), hn⟩
set_option maxHeartbeats 1600000 in
theorem own_any (A : Option Addr) (n c : Nat) (v : Nat → UInt8) (B : Option Addr) (m d : Nat) (u : Nat → UInt8) (w : World) (hA : TSl w A n c v) (hB : TSl w B m d u) :
    Calls Tryz.prog 41 #[.agg #[.slice A n c, .slice B m d]] w fun e w' => ∃ y z, e = .returned (.agg #[y, z]) ∧ Own w' w.heap.size 27 1 IsByte y n (byteV v) ∧ Own w' w.heap.size 27 1 IsByte z m (byteV u) ∧ (∀ g, y.ownBlock = some g → z.ownBlock ≠ some g) ∧ Kept S0 w w' := by
  have hk0 : Kept S0 w ((w.alloc (.cells #[.slice A n c, .slice B m d] 38)).alloc (.cells #[.slice none 0 0, .slice none 0 0] 38)).drew := (((Kept.refl S0 w).alloc _).alloc _).drew
  have hB1 := ((Blk.new w 38 #[.slice A n c, .slice B m d]).alloc (.cells #[.slice none 0 0, .slice none 0 0] 38)).drew
  have hB2 := (Blk.new1 w (.cells #[.slice A n c, .slice B m d] 38) 38 #[.slice none 0 0, .slice none 0 0]).drew
  have HA := Lib.hid (hA.kept hk0)
  have HBB := Lib.hid (hB.kept hk0)
  have HB1 := Lib.hid hB1
  have HB2 := Lib.hid hB2
  have HK := Lib.hid hk0
  clear hA hB hk0 hB1 hB2
  go_enter Tryz.func41, Tryz.ntmps41
  go_wp2_with fail
  generalize hxb : w.heap.size = xb at *
  refine wp_region_R (fun w' => w'.cell? ⟨xb, 0, none⟩ = some (.slice A n c) ∧ w'.cell? ⟨xb, 1, none⟩ = some (.slice B m d)) [7] (by kernel_rfl) ?_
  generalize ((w.alloc (.cells #[.slice A n c, .slice B m d] 38)).alloc (.cells #[.slice none 0 0, .slice none 0 0] 38)).drew = w1 at *
  have hS : w1.cell? ⟨xb, 0, none⟩ = some (.slice A n c) ∧ w1.cell? ⟨xb, 1, none⟩ = some (.slice B m d) := ⟨HB1.out.cell 0, HB1.out.cell 1⟩
  refine tkR 0 (v := ?_) rfl hS ⟨by rfl, ?_⟩ ?_
  rotate_left; (intro w hSw; (try dsimp only at hSw); first | (go_simp; done) | (go_simp; with_reducible rfl))
  simp only [zq1, zq2, Act.put, zq4, zq5, zq6]
  refine tkR 1 (v := ?_) rfl hS ⟨by rfl, ?_⟩ ?_
  rotate_left; (intro w hSw; (try dsimp only at hSw); first | (go_simp; done) | (go_simp; with_reducible rfl))
  simp only [zq1, zq2, zq3, Act.put, zq4, zq5, zq6]
  refine tkR 3 (v := ?_) rfl hS ⟨by rfl, ?_⟩ ?_
  rotate_left; (intro w hSw; (try dsimp only at hSw); first | (go_simp; done) | (go_simp; with_reducible rfl))
  simp only [zq1, zq2, zq3, Act.put, zq4, zq5, zq6]
  refine tkR 4 (v := ?_) rfl hS ⟨by rfl, ?_⟩ ?_
  rotate_left; (intro w hSw; (try dsimp only at hSw); first | (go_simp; done) | (go_simp; with_reducible rfl))
  simp only [zq1, zq2, zq3, Act.put, zq4, zq5, zq6]
  refine wpAnyR_one 2 rfl (by kernel_rfl) (fun K hK2 => ?_)
  go_simp
  go_at_call 79
  refine (clonet_any A n c v w1 HA.out.sl HA.out.z HA.out.sz).mono ?_
  rintro e w2 ⟨y, rfl, hy, hk2⟩
  obtain ⟨yA, yc, hye, _, _, _⟩ := hy.out
  subst hye
  have hS2 : w2.cell? ⟨xb, 0, none⟩ = some (.slice A n c) ∧ w2.cell? ⟨xb, 1, none⟩ = some (.slice B m d) := ⟨keep0 hk2 hS.1, keep0 hk2 hS.2⟩
  refine hK2.out _ _ (fun _ => hS2) ?_
  clear hK2 K
  refine wpAnyR_one 5 rfl (by kernel_rfl) (fun K hK5 => ?_)
  go_simp
  go_at_call 79
  have hB2 := HBB.out.kept hk2
  refine (clonet_any B m d u w2 hB2.sl hB2.z hB2.sz).mono ?_
  rintro e w3 ⟨z, rfl, hz, hk3⟩
  obtain ⟨zA, zc, hze, _, _, _⟩ := hz.out
  subst hze
  have hS3 : w3.cell? ⟨xb, 0, none⟩ = some (.slice A n c) ∧ w3.cell? ⟨xb, 1, none⟩ = some (.slice B m d) := ⟨keep0 hk3 hS2.1, keep0 hk3 hS2.2⟩
  refine hK5.out _ _ (fun _ => hS3) ?_
  clear hK5 K
  refine tkR 6 (v := ?_) rfl hS3 ⟨by rfl, ?_⟩ ?_
  rotate_left; (intro w hSw; (try dsimp only at hSw); first | (go_simp; done) | (go_simp; with_reducible rfl))
  simp only [zq1, zq2, zq3, Act.put, zq4, zq5, zq6]
  have hb3 := hk3.blk (hk2.blk HB2.out (fun x => x)) (fun x => x)
  have t0 := hb3.cell 0
  have t1 := hb3.cell 1
  have f0 := hb3.frozen 0
  have f1 := hb3.frozen 1
  refine wpAnyR_one 7 rfl (by kernel_rfl) (fun K hK7 => ?_)
  go_simp
  refine hK7.out _ _ (fun h => absurd h (by decide)) ?_
  clear hK7 K
  refine wpAnyR_done (by kernel_rfl) ?_ _
  have hb4 := (hb3.set_ 0 (.slice yA n yc)).set_ 1 (.slice zA m zc)
  have r0 := hb4.cell 0
  have r1 := hb4.cell 1
  have hset : Kept (S1 (xb + 1)) w3 ((w3.setCell ⟨xb + 1, 0, none⟩ (.slice yA n yc)).setCell ⟨xb + 1, 1, none⟩ (.slice zA m zc)) := ((Kept.refl (S1 (xb + 1)) w3).setCell (p := ⟨xb + 1, 0, none⟩) (.inl rfl) _).setCell (p := ⟨xb + 1, 1, none⟩) (.inl rfl) _
  have hlt := HB2.out.lt
  have hsz2 := hk2.size
  have hwsz := HK.out.size
  have HY := Lib.hid ((hy.kept hk3 (fun _ _ x => x)).kept hset (fun g hg e => by have e' : g = xb + 1 := e; have := (hy.lt g hg).1; omega))
  have HZ := Lib.hid (hz.kept hset (fun g hg e => by have e' : g = xb + 1 := e; have := (hz.lt g hg).1; omega))
  have HD := Lib.hid (show ∀ g, (Value.slice yA n yc).ownBlock = some g → (Value.slice zA m zc).ownBlock ≠ some g from fun g h1 h2 => by have := (hy.lt g h1).2; have := (hz.lt g h2).1; omega)
  have HKK := Lib.hid (((HK.out.then0 hk2).then0 hk3).trans_ hset (fun i e => .inr (by have e' : i = xb + 1 := e; omega)))
  clear hS hS2 hS3 hk2 hk3 hy hz hb3 t0 t1 f0 f1 hset hB2 hb4
  go_wp2_with fail
  exact bodyPost_ret (v := .agg #[.slice yA n yc, .slice zA m zc]) (by simp [results, Tryz.results41, go_sem, r0, r1]) rfl ⟨_, _, rfl, HY.out.mono (by omega), HZ.out.mono (by omega), HD.out, HKK.out⟩
def eqT (n m : Nat) (v u : Nat → UInt8) : Bool := decide (n = m ∧ ∀ i, i < n → v i = u i)
theorem eqT_true {n : Nat} {v u : Nat → UInt8} (h : ∀ i, i < n → v i = u i) : eqT n n v u = true := decide_eq_true ⟨rfl, h⟩
theorem eqT_ne {n m : Nat} {v u : Nat → UInt8} (h : n ≠ m) : eqT n m v u = false := decide_eq_false fun x => h x.1
theorem eqT_at {n m i : Nat} {v u : Nat → UInt8} (hi : i < n) (h : v i ≠ u i) : eqT n m v u = false := decide_eq_false fun x => h (x.2 i hi)
set_option maxHeartbeats 1600000 in
theorem equalt_any (A B : Option Addr) (n m c d : Nat) (v u : Nat → UInt8) (w : World) (hA : Sl w A n (byteV v)) (hB : Sl w B m (byteV u)) (hn : n ≤ 9223372036854775806) (hm : m ≤ 9223372036854775806) :
    Calls Tryz.prog 78 #[.slice A n c, .slice B m d] w fun e w' => e = .returned (.bool (eqT n m v u)) ∧ Kept S0 w w' := by
  by_cases hnm : n = m
  · subst hnm
    have e0 : (((n : Nat) : Int) != (n : Int)) = false := by simp
    have HA := Lib.hid hA
    have HB := Lib.hid hB
    clear hA hB
    go_enter Tryz.func78, Tryz.ntmps78
    go_wp2_with fail
    go_loopw [13] (fun i wr => ∃ k : Nat, k ≤ n ∧ i = .int .i64 (k : Int) ∧ (∀ j, j < k → v j = u j) ∧ ∃ q, wr = w.drewN q) (fun i _ => n - (intOf i).toNat)
    case atStart => exact ⟨0, by omega, rfl, fun j hj => absurd hj (by omega), 0, rfl⟩
    case round =>
      obtain ⟨k, hk, rfl, heq, q, rfl⟩ := hrel
      by_cases hlt : k < n
      · obtain ⟨b1, o1, hAe, h1⟩ := HA.out (by omega)
        obtain ⟨b2, o2, hBe, h2⟩ := HB.out (by omega)
        subst hAe hBe
        have d0 : w.cell? ⟨b1, o1 + k, none⟩ = some (.int .u8 ((v k).toNat : Int)) := h1 k hlt
        have f0 : w.cell? ⟨b2, o2 + k, none⟩ = some (.int .u8 ((u k).toNat : Int)) := h2 k hlt
        have HE := Lib.hid heq
        clear h1 h2 heq
        by_cases hvu : v k = u k
        · have HV := Lib.hid hvu
          rw [hvu] at d0
          have e1 : (((u k).toNat : Int) != ((u k).toNat : Int)) = false := by simp
          clear hvu
          go_wp2_with fail
          go_quiet (fail)
          go_wp2_with fail
          go_roundw
          case rel => exact ⟨k + 1, by omega, by go_num, fun j hj => by
            rcases Nat.lt_or_ge j k with h | h
            · exact HE.out j h
            · obtain rfl : j = k := by omega
              exact HV.out, _, rfl⟩
          case measure => simp [intOf]; omega
        · have hne : ((v k).toNat : Int) ≠ ((u k).toNat : Int) := fun e => hvu (UInt8.toNat_inj.1 (by omega))
          have e1 : (((v k).toNat : Int) != ((u k).toNat : Int)) = true := bne_iff_ne.2 hne
          have HB := Lib.hid (eqT_at (m := n) hlt hvu)
          clear hvu hne
          go_wp2_with fail
          go_quiet (fail)
          go_wp2_with fail
          go_ret
          exact ⟨ret_bool (by rw [HB.out]), ((Kept.refl S0 w).drewN _).drewN _⟩
      · obtain rfl : k = n := by omega
        have HB2 := Lib.hid (eqT_true heq)
        clear heq
        go_wp2_with fail
        go_ret
        exact ⟨ret_bool (by rw [HB2.out]), (Kept.refl S0 w).drewN q⟩
  · have hne : ((n : Nat) : Int) ≠ (m : Int) := by omega
    have e1 : (((n : Nat) : Int) != (m : Int)) = true := bne_iff_ne.2 hne
    have HB := Lib.hid (eqT_ne (v := v) (u := u) hnm)
    clear hnm hne hA hB
    go_enter Tryz.func78, Tryz.ntmps78
    go_wp2_with fail
    go_ret
    exact ⟨ret_bool (by rw [HB.out]), Kept.refl _ _⟩
theorem same_any (A B C D : Option Addr) (n1 n2 n3 n4 c1 c2 c3 c4 : Nat) (v1 v2 v3 v4 : Nat → UInt8) (w : World) (h1 : TSl w A n1 c1 v1) (h2 : TSl w B n2 c2 v2) (h3 : TSl w C n3 c3 v3) (h4 : TSl w D n4 c4 v4) :
    Calls Tryz.prog 32 #[.agg #[.slice A n1 c1, .slice B n2 c2], .agg #[.slice C n3 c3, .slice D n4 c4]] w fun e w' => e = .returned (.bool (eqT n1 n3 v1 v3 && eqT n2 n4 v2 v4)) ∧ Kept S0 w w' := by
  have hka : Kept S0 w ((w.alloc (.cells #[.slice A n1 c1, .slice B n2 c2] 38)).alloc (.cells #[.slice C n3 c3, .slice D n4 c4] 38)) := ((Kept.refl S0 w).alloc _).alloc _
  have hB1 := (Blk.new w 38 #[.slice A n1 c1, .slice B n2 c2]).alloc (.cells #[.slice C n3 c3, .slice D n4 c4] 38)
  have hB2 := Blk.new1 w (.cells #[.slice A n1 c1, .slice B n2 c2] 38) 38 #[.slice C n3 c3, .slice D n4 c4]
  have a0 := hB1.cell 0
  have b0 := hB2.cell 0
  have HB1 := Lib.hid hB1
  have HB2 := Lib.hid hB2
  have H1 := Lib.hid (h1.kept hka)
  have H2 := Lib.hid (h2.kept hka)
  have H3 := Lib.hid (h3.kept hka)
  have H4 := Lib.hid (h4.kept hka)
  have HK := Lib.hid hka
  clear hB1 hB2 h1 h2 h3 h4 hka
  go_enter Tryz.func32, Tryz.ntmps32
  go_wp2_with fail
  refine (equalt_any A C n1 n3 c1 c3 v1 v3 _ H1.out.sl H3.out.sl (by have := H1.out.sz; omega) (by have := H3.out.sz; omega)).mono ?_
  rintro e w2 ⟨rfl, hk2⟩
  have HK2 := Lib.hid (HK.out.then0 hk2)
  cases he : eqT n1 n3 v1 v3 with
  | false =>
    have HE := Lib.hid he
    clear hk2 a0 b0 he
    go_wp2_with fail
    go_ret
    exact ⟨ret_bool (by rw [HE.out]; rfl), HK2.out⟩
  | true =>
    have a1 := (hk2.blk HB1.out (fun x => x)).cell 1
    have b1 := (hk2.blk HB2.out (fun x => x)).cell 1
    have HS2 := Lib.hid (H2.out.kept hk2)
    have HS4 := Lib.hid (H4.out.kept hk2)
    have HE := Lib.hid he
    clear hk2 a0 b0 he
    go_wp2_with fail
    refine (equalt_any B D n2 n4 c2 c4 v2 v4 _ HS2.out.sl HS4.out.sl (by have := HS2.out.sz; omega) (by have := HS4.out.sz; omega)).mono ?_
    rintro e w3 ⟨rfl, hk3⟩
    have HK3 := Lib.hid (HK2.out.then0 hk3)
    clear hk3 a1 b1
    go_wp2_with fail
    go_ret
    exact ⟨ret_bool (by rw [HE.out]; rfl), HK3.out⟩
end Go.Proofs.YtlnkdnmeikpckaaGreat
namespace Go.Proofs.YtlnkdnmeikpckaaGreat
open Go.RowKit
set_option maxRecDepth 100000
/-- Is a value one of its type? -/
def hasB (t lo hi : Int) : Bool :=
  if t = 123 then true else if t = 127 ∨ t = 125 then (hi == 0) && decide (lo ≤ 4294967295) else if t = 126 ∨ t = 124 then hi == 0 else if t = 112 ∨ t = 111 then (hi == 0) && decide (lo ≤ 4294967296) else false
theorem hasB_v (lo hi : Int) : hasB 123 lo hi = true := by simp [hasB]
theorem hasB_w {t : Int} (lo hi : Int) (h : t = 127 ∨ t = 125) : hasB t lo hi = ((hi == 0) && decide (lo ≤ 4294967295)) := by rcases h with rfl | rfl <;> simp [hasB]
theorem hasB_d {t : Int} (lo hi : Int) (h : t = 126 ∨ t = 124) : hasB t lo hi = (hi == 0) := by rcases h with rfl | rfl <;> simp [hasB]
theorem hasB_r {t : Int} (lo hi : Int) (h : t = 112 ∨ t = 111) : hasB t lo hi = ((hi == 0) && decide (lo ≤ 4294967296)) := by rcases h with rfl | rfl <;> simp [hasB]
theorem hasB_n {t : Int} (lo hi : Int) (h : ¬ (t = 123 ∨ t = 127 ∨ t = 125 ∨ t = 126 ∨ t = 124 ∨ t = 112 ∨ t = 111)) : hasB t lo hi = false := by
  unfold hasB
  rw [if_neg (fun e => h (.inl e)), if_neg (fun e => h (by omega)), if_neg (fun e => h (by omega)), if_neg (fun e => h (by omega))]
set_option maxHeartbeats 3200000 in
theorem has_any (t lo hi : Int) (w : World) (h0 : 0 ≤ lo) (h1 : lo ≤ 18446744073709551615) : Calls Tryz.prog 81 #[.agg #[.int .u8 t, .int .u64 lo, .int .u64 hi]] w fun e w' => e = .returned (.bool (hasB t lo hi)) ∧ Kept S0 w w' := by
  by_cases hv : t = 123
  · subst hv
    have HB := Lib.hid (hasB_v lo hi)
    go_enter Tryz.func81, Tryz.ntmps81
    go_wp2
    go_ret
    exact ⟨ret_bool (by rw [HB.out]), (by repeat (first | exact Kept.refl _ _ | assumption | refine Kept.drew ?_ | refine Kept.alloc ?_ _ | refine Kept.setCell ?_ (.inr (by first | exact Nat.le_refl _ | (simp; done) | omega | (simp; omega))) _))⟩
  by_cases hw : t = 127 ∨ t = 125
  · have HB := Lib.hid (hasB_w lo hi hw)
    clear hv
    by_cases hl : lo ≤ 4294967295
    · have HL := Lib.hid hl
      have u1 : IntKind.u32.wrap lo = lo := IntWalk.u32_in _ (by omega)
      rcases hw with rfl | rfl
      all_goals
        go_enter Tryz.func81, Tryz.ntmps81
        go_wp2
        all_goals
          go_ret
          exact ⟨ret_bool (by rw [HB.out, decide_eq_true HL.out]; simp_all), (by repeat (first | exact Kept.refl _ _ | assumption | refine Kept.drew ?_ | refine Kept.alloc ?_ _ | refine Kept.setCell ?_ (.inr (by first | exact Nat.le_refl _ | (simp; done) | omega | (simp; omega))) _))⟩
    · have HL := Lib.hid (decide_eq_false hl)
      obtain ⟨k, hk⟩ : ∃ k, IntKind.u32.wrap lo = k := ⟨_, rfl⟩
      have hkb : 0 ≤ k ∧ k ≤ 4294967295 := by
        have h : IntKind.u32.wrap lo = lo % 4294967296 := by simp [IntKind.wrap, IntKind.signed, IntKind.bits]
        omega
      have hk0 := hkb.1
      have hk1 := hkb.2
      have hne : (lo == k) = false := beq_eq_false_iff_ne.2 (by omega)
      have hne2 : (lo = k) = False := eq_false (by omega)
      clear hkb hl
      rcases hw with rfl | rfl
      all_goals
        go_enter Tryz.func81, Tryz.ntmps81
        go_wp2
        all_goals
          go_ret
          exact ⟨ret_bool (by rw [HB.out, HL.out]; simp), (by repeat (first | exact Kept.refl _ _ | assumption | refine Kept.drew ?_ | refine Kept.alloc ?_ _ | refine Kept.setCell ?_ (.inr (by first | exact Nat.le_refl _ | (simp; done) | omega | (simp; omega))) _))⟩
  by_cases hd : t = 126 ∨ t = 124
  · have HB := Lib.hid (hasB_d lo hi hd)
    clear hv hw
    rcases hd with rfl | rfl
    all_goals
      go_enter Tryz.func81, Tryz.ntmps81
      go_wp2
      go_ret
      exact ⟨ret_bool (by rw [HB.out]), (by repeat (first | exact Kept.refl _ _ | assumption | refine Kept.drew ?_ | refine Kept.alloc ?_ _ | refine Kept.setCell ?_ (.inr (by first | exact Nat.le_refl _ | (simp; done) | omega | (simp; omega))) _))⟩
  by_cases hr : t = 112 ∨ t = 111
  · have HB := Lib.hid (hasB_r lo hi hr)
    clear hv hw hd
    cases hh : (hi == 0) with
    | true =>
      rcases hr with rfl | rfl
      all_goals
        go_enter Tryz.func81, Tryz.ntmps81
        go_wp2
        go_ret
        exact ⟨ret_bool (by rw [HB.out, hh]; simp), (by repeat (first | exact Kept.refl _ _ | assumption | refine Kept.drew ?_ | refine Kept.alloc ?_ _ | refine Kept.setCell ?_ (.inr (by first | exact Nat.le_refl _ | (simp; done) | omega | (simp; omega))) _))⟩
    | false =>
      rcases hr with rfl | rfl
      all_goals
        go_enter Tryz.func81, Tryz.ntmps81
        go_wp2
        go_ret
        exact ⟨ret_bool (by rw [HB.out, hh]; simp), (by repeat (first | exact Kept.refl _ _ | assumption | refine Kept.drew ?_ | refine Kept.alloc ?_ _ | refine Kept.setCell ?_ (.inr (by first | exact Nat.le_refl _ | (simp; done) | omega | (simp; omega))) _))⟩
  · have HB := Lib.hid (hasB_n lo hi (t := t) (by omega))
    have g1 : (t == 123) = false := beq_eq_false_iff_ne.2 hv
    have g2 : (t == 127) = false := beq_eq_false_iff_ne.2 (by omega)
    have g3 : (t == 125) = false := beq_eq_false_iff_ne.2 (by omega)
    have g4 : (t == 126) = false := beq_eq_false_iff_ne.2 (by omega)
    have g5 : (t == 124) = false := beq_eq_false_iff_ne.2 (by omega)
    have g6 : (t == 112) = false := beq_eq_false_iff_ne.2 (by omega)
    have g7 : (t == 111) = false := beq_eq_false_iff_ne.2 (by omega)
    clear hv hw hd hr
    go_enter Tryz.func81, Tryz.ntmps81
    go_wp2
    go_ret
    exact ⟨ret_bool (by rw [HB.out]), (by repeat (first | exact Kept.refl _ _ | assumption | refine Kept.drew ?_ | refine Kept.alloc ?_ _ | refine Kept.setCell ?_ (.inr (by first | exact Nat.le_refl _ | (simp; done) | omega | (simp; omega))) _))⟩
set_option maxHeartbeats 3200000 in
theorem rhas_any (t lo hi : Int) (w : World) (_h0 : 0 ≤ lo) (_h1 : lo ≤ 18446744073709551615) : Calls Tryz.prog 84 #[.agg #[.int .u8 t, .int .u64 lo, .int .u64 hi]] w fun e w' => e = .returned (.bool (hasB t lo hi)) ∧ Kept S0 w w' := by
  by_cases hv : t = 123
  · subst hv
    have HB := Lib.hid (hasB_v lo hi)
    go_enter Tryz.func84, Tryz.ntmps84
    go_wp2
    go_ret
    exact ⟨ret_bool (by rw [HB.out]), (by repeat (first | exact Kept.refl _ _ | assumption | refine Kept.drew ?_ | refine Kept.alloc ?_ _ | refine Kept.setCell ?_ (.inr (by first | exact Nat.le_refl _ | (simp; done) | omega | (simp; omega))) _))⟩
  by_cases hw : t = 127 ∨ t = 125
  · have HB := Lib.hid (hasB_w lo hi hw)
    clear hv
    cases hl : decide (lo ≤ 4294967295)
    all_goals
      rcases hw with rfl | rfl
      all_goals
        go_enter Tryz.func84, Tryz.ntmps84
        go_wp2
        go_ret
        exact ⟨ret_bool (by rw [HB.out, hl]; simp), (by repeat (first | exact Kept.refl _ _ | assumption | refine Kept.drew ?_ | refine Kept.alloc ?_ _ | refine Kept.setCell ?_ (.inr (by first | exact Nat.le_refl _ | (simp; done) | omega | (simp; omega))) _))⟩
  by_cases hd : t = 126 ∨ t = 124
  · have HB := Lib.hid (hasB_d lo hi hd)
    clear hv hw
    rcases hd with rfl | rfl
    all_goals
      go_enter Tryz.func84, Tryz.ntmps84
      go_wp2
      go_ret
      exact ⟨ret_bool (by rw [HB.out]), (by repeat (first | exact Kept.refl _ _ | assumption | refine Kept.drew ?_ | refine Kept.alloc ?_ _ | refine Kept.setCell ?_ (.inr (by first | exact Nat.le_refl _ | (simp; done) | omega | (simp; omega))) _))⟩
  by_cases hr : t = 112 ∨ t = 111
  · have HB := Lib.hid (hasB_r lo hi hr)
    clear hv hw hd
    cases hl : decide (lo ≤ 4294967296)
    all_goals
      rcases hr with rfl | rfl
      all_goals
        go_enter Tryz.func84, Tryz.ntmps84
        go_wp2
        go_ret
        exact ⟨ret_bool (by rw [HB.out, hl]; simp), (by repeat (first | exact Kept.refl _ _ | assumption | refine Kept.drew ?_ | refine Kept.alloc ?_ _ | refine Kept.setCell ?_ (.inr (by first | exact Nat.le_refl _ | (simp; done) | omega | (simp; omega))) _))⟩
  · have HB := Lib.hid (hasB_n lo hi (t := t) (by omega))
    have g1 : (t == 123) = false := beq_eq_false_iff_ne.2 hv
    have g2 : (t == 127) = false := beq_eq_false_iff_ne.2 (by omega)
    have g3 : (t == 125) = false := beq_eq_false_iff_ne.2 (by omega)
    have g4 : (t == 126) = false := beq_eq_false_iff_ne.2 (by omega)
    have g5 : (t == 124) = false := beq_eq_false_iff_ne.2 (by omega)
    have g6 : (t == 112) = false := beq_eq_false_iff_ne.2 (by omega)
    have g7 : (t == 111) = false := beq_eq_false_iff_ne.2 (by omega)
    clear hv hw hd hr
    go_enter Tryz.func84, Tryz.ntmps84
    go_wp2
    go_ret
    exact ⟨ret_bool (by rw [HB.out]), (by repeat (first | exact Kept.refl _ _ | assumption | refine Kept.drew ?_ | refine Kept.alloc ?_ _ | refine Kept.setCell ?_ (.inr (by first | exact Nat.le_refl _ | (simp; done) | omega | (simp; omega))) _))⟩
set_option maxHeartbeats 800000 in
theorem ris_any (t : Int) (w : World) : Calls Tryz.prog 122 #[.int .u8 t] w fun e w' => e = .returned (.bool (isB t)) ∧ w = w' := by
  by_cases h : t = 127 ∨ t = 126 ∨ t = 125 ∨ t = 124 ∨ t = 123 ∨ t = 112 ∨ t = 111
  · rcases h with rfl | rfl | rfl | rfl | rfl | rfl | rfl
    all_goals
      go_enter Tryz.func122, Tryz.ntmps122
      go_wp2
      go_ret
      exact ⟨ret_bool (by first | rfl | decide), rfl⟩
  · have HB := Lib.hid (show isB t = false by unfold isB; exact decide_eq_false h)
    have HN := Lib.hid h
    have h1 : (t == 127) = false := beq_eq_false_iff_ne.2 (fun e => h (.inl e))
    have h2 : (t == 126) = false := beq_eq_false_iff_ne.2 (fun e => h (.inr (.inl e)))
    have h3 : (t == 125) = false := beq_eq_false_iff_ne.2 (fun e => h (.inr (.inr (.inl e))))
    have h4 : (t == 124) = false := beq_eq_false_iff_ne.2 (fun e => h (.inr (.inr (.inr (.inl e)))))
    have h5 : (t == 123) = false := beq_eq_false_iff_ne.2 (fun e => h (.inr (.inr (.inr (.inr (.inl e))))))
    have h6 : (t == 112) = false := beq_eq_false_iff_ne.2 (fun e => h (.inr (.inr (.inr (.inr (.inr (.inl e)))))))
    have h7 : (t == 111) = false := beq_eq_false_iff_ne.2 (fun e => h (.inr (.inr (.inr (.inr (.inr (.inr e)))))))
    clear h
    go_enter Tryz.func122, Tryz.ntmps122
    go_wp2
    all_goals
      go_ret
      exact ⟨ret_bool (by have hn := HN.out; rw [HB.out] <;> first | exact decide_eq_false (by omega) | (exfalso; omega)), rfl⟩
set_option maxHeartbeats 1600000 in
theorem rvals_any (A : Option Addr) (n c : Nat) (v : Nat → UInt8) (w : World) (hA : Sl w A n (byteV v)) (hn : n ≤ 9223372036854775806) :
    Calls Tryz.prog 87 #[.slice A n c] w fun e w' => e = .returned (.bool (!badT v n)) ∧ w = w' := by
  have HA := Lib.hid hA
  clear hA
  go_enter Tryz.func87, Tryz.ntmps87
  go_wp2_with fail
  go_loopw [3] (fun i wr => ∃ k : Nat, k ≤ n ∧ i = .int .i64 (k : Int) ∧ (∀ j, j < k → isB ((v j).toNat : Int) = true) ∧ wr = w) (fun i _ => n - (intOf i).toNat)
  case atStart => exact ⟨0, by omega, rfl, fun j hj => absurd hj (by omega), rfl⟩
  case round =>
    obtain ⟨k, hk, rfl, hfit, rfl⟩ := hrel
    by_cases hlt : k < n
    · obtain ⟨b1, o1, hAe, hc⟩ := HA.out (by omega)
      subst hAe
      have d0 := hc k hlt
      unfold byteV at d0
      have HI := Lib.hid (ris_any ((v k).toNat : Int) wr)
      have HF := Lib.hid hfit
      clear hc hfit
      go_wp2_with fail
      refine HI.out.mono ?_
      rintro e w1 ⟨rfl, rfl⟩
      cases hfk : isB ((v k).toNat : Int) with
      | true =>
        have HFK := Lib.hid hfk
        clear hfk
        go_wp2_with fail
        go_roundw
        case rel => exact ⟨k + 1, by omega, by go_num, fun j hj => by
          rcases Nat.lt_or_ge j k with h | h
          · exact HF.out j h
          · obtain rfl : j = k := by omega
            exact HFK.out, by trivial⟩
        case measure => simp [intOf]; omega
      | false =>
        have HFK := Lib.hid hfk
        clear hfk
        go_wp2_with fail
        go_ret
        exact ⟨ret_bool (by rw [badT_true hlt HFK.out]; rfl), rfl⟩
    · obtain rfl : k = n := by omega
      have HF := Lib.hid hfit
      clear hfit
      go_wp2_with fail
      go_ret
      exact ⟨ret_bool (by rw [badT_false HF.out]; rfl), rfl⟩
/-- Is it one of so many? -/
def inA (a many : Int) : Bool := decide (0 ≤ a ∧ a < many)
theorem there_any (a many : Int) (w : World) : Calls Tryz.prog 27 #[.int .i64 a, .int .i64 many] w fun e w' => e = .returned (.bool (inA a many)) ∧ w = w' := by
  by_cases h : 0 ≤ a
  · have HB := Lib.hid (show inA a many = decide (a < many) by unfold inA; exact decide_eq_decide.2 (by omega))
    go_enter Tryz.func27, Tryz.ntmps27
    go_wp2
    go_ret
    exact ⟨ret_bool (by rw [HB.out]), rfl⟩
  · have HB := Lib.hid (show inA a many = false by unfold inA; exact decide_eq_false (by omega))
    have h2 : decide (0 ≤ a) = false := decide_eq_false h
    clear h
    go_enter Tryz.func27, Tryz.ntmps27
    go_wp2
    go_ret
    exact ⟨ret_bool (by rw [HB.out]), rfl⟩
end Go.Proofs.YtlnkdnmeikpckaaGreat
