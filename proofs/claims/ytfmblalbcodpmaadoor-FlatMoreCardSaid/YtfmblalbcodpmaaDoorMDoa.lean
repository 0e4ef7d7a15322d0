/- What the proofs lean on, part 1 of Do. No condition. -/
import Derived.Test.YtfmblalbcodpmaaDoorProg
import Derived.Shelf.Strings.Split
import Derived.Shelf.Strings.Fields
import Derived.Shelf.Strings.Cut
import Derived.Shelf.Strings.Count
import Derived.WalkKit
import Derived.WalkSpells
import Derived.WalkLawsBesides
import Derived.BigQuiet
import Derived.Deep.QuietTactic
import Derived.Deep.OwnRows
import Derived.Deep.Draws
import Derived.Laws.OwnMore
import Derived.Laws.Rows
import Derived.Lib.Hide
import Derived.Laws.CopyOwn
import Derived.Deep.RegionLaw
import Derived.Laws.Append
import Derived.Laws.AppendOwn
import Derived.Lib.Fields
import Derived.Great.BuildSlice
import Derived.Deep.DeepCutAuto
import Derived.StillTail
import Derived.Deep.RegionHeld3
import Derived.Lib.OthersKept
namespace Go.Proofs.YtfmblalbcodpmaaDoor
open Go.Shelf
def libR : Ren := { f := fun n => match n with | 138 => 113 | 143 => 119 | 145 => 86 | 146 => 114 | 157 => 116 | 195 => 117 | 197 => 131 | 199 => 126 | 217 => 121 | 218 => 118 | 219 => 115 | 220 => 106 | 221 => 120 | 224 => 123 | 225 => 122 | 229 => 125 | 260 => 134 | 261 => 130 | 266 => 128 | 267 => 124 | 268 => 127 | 311 => 132 | 312 => 133 | 314 => 129 | m => m, t := fun n => match n with | 0 => 0 | 3 => 3 | 4 => 4 | 5 => 5 | 9 => 9 | 21 => 21 | 31 => 189 | 40 => 197 | 46 => 38 | 49 => 39 | 51 => 41 | 59 => 158 | 105 => 206 | 119 => 195 | 138 => 221 | 139 => 222 | 141 => 205 | 146 => 199 | 152 => 201 | 154 => 203 | 193 => 208 | 194 => 209 | 196 => 211 | 198 => 213 | 201 => 216 | 226 => 218 | 227 => 219 | m => m, g := fun n => match n with | 0 => 1 | 1 => 0 | 3 => 3 | 4 => 4 | 6 => 2 | m => m }
theorem lays157 : Lays.n157 Tryd.prog libR := {
  mixed := by kernel_rfl
  f157 := Tryd.func116.trans (congrArg some (by kernel_rfl))
  f199 := Tryd.func126.trans (congrArg some (by kernel_rfl))
  f229 := Tryd.func125.trans (congrArg some (by kernel_rfl))
  f261 := Tryd.func130.trans (congrArg some (by kernel_rfl))
  f311 := Tryd.func132.trans (congrArg some (by kernel_rfl))
  f312 := Tryd.func133.trans (congrArg some (by kernel_rfl))
  t0 := Tryd.underlying0
  a0 := Tryd.isAgg0
  z0 := Tryd.sizeOf0
  v0 := Tryd.zeroValue0
  t3 := Tryd.underlying3
  a3 := Tryd.isAgg3
  z3 := Tryd.sizeOf3
  v3 := Tryd.zeroValue3
  t4 := Tryd.underlying4
  a4 := Tryd.isAgg4
  z4 := Tryd.sizeOf4
  v4 := Tryd.zeroValue4
  t5 := Tryd.underlying5
  a5 := Tryd.isAgg5
  z5 := Tryd.sizeOf5
  v5 := Tryd.zeroValue5
  t9 := Tryd.underlying9
  a9 := Tryd.isAgg9
  z9 := Tryd.sizeOf9
  v9 := Tryd.zeroValue9
  t21 := Tryd.underlying21
  a21 := Tryd.isAgg21
  z21 := Tryd.sizeOf21
  v21 := Tryd.zeroValue21
  t31 := Tryd.underlying189
  a31 := Tryd.isAgg189
  z31 := Tryd.sizeOf189
  v31 := Tryd.zeroValue189
  t40 := Tryd.underlying197
  a40 := Tryd.isAgg197
  z40 := Tryd.sizeOf197
  v40 := Tryd.zeroValue197
  t46 := Tryd.underlying38
  a46 := Tryd.isAgg38
  z46 := Tryd.sizeOf38
  v46 := Tryd.zeroValue38
  t49 := Tryd.underlying39
  a49 := Tryd.isAgg39
  z49 := Tryd.sizeOf39
  v49 := Tryd.zeroValue39
  t51 := Tryd.underlying41
  a51 := Tryd.isAgg41
  z51 := Tryd.sizeOf41
  v51 := Tryd.zeroValue41
  t119 := Tryd.underlying195
  a119 := Tryd.isAgg195
  z119 := Tryd.sizeOf195
  t141 := Tryd.underlying205
  a141 := Tryd.isAgg205
  z141 := Tryd.sizeOf205
  v141 := Tryd.zeroValue205
  t152 := Tryd.underlying201
  a152 := Tryd.isAgg201
  z152 := Tryd.sizeOf201
  v152 := Tryd.zeroValue201
  t154 := Tryd.underlying203
  a154 := Tryd.isAgg203
  z154 := Tryd.sizeOf203
  v154 := Tryd.zeroValue203
  t193 := Tryd.underlying208
  a193 := Tryd.isAgg208
  z193 := Tryd.sizeOf208
  v193 := Tryd.zeroValue208
  t194 := Tryd.underlying209
  a194 := Tryd.isAgg209
  z194 := Tryd.sizeOf209
  v194 := Tryd.zeroValue209
  t196 := Tryd.underlying211
  a196 := Tryd.isAgg211
  z196 := Tryd.sizeOf211
  v196 := Tryd.zeroValue211
  t198 := Tryd.underlying213
  a198 := Tryd.isAgg213
  z198 := Tryd.sizeOf213
  v198 := Tryd.zeroValue213
  t201 := Tryd.underlying216
  a201 := Tryd.isAgg216
  z201 := Tryd.sizeOf216
  v201 := Tryd.zeroValue216
  t226 := Tryd.underlying218
  a226 := Tryd.isAgg218
  z226 := Tryd.sizeOf218
  v226 := Tryd.zeroValue218
  t227 := Tryd.underlying219
  a227 := Tryd.isAgg219
  z227 := Tryd.sizeOf219
  v227 := Tryd.zeroValue219
  g0 := by kernel_rfl
  g6 := by kernel_rfl }
theorem lays138 : Lays.n138 Tryd.prog libR := {
  mixed := by kernel_rfl
  f138 := Tryd.func113.trans (congrArg some (by kernel_rfl))
  f143 := Tryd.func119.trans (congrArg some (by kernel_rfl))
  f195 := Tryd.func117.trans (congrArg some (by kernel_rfl))
  f217 := Tryd.func121.trans (congrArg some (by kernel_rfl))
  f218 := Tryd.func118.trans (congrArg some (by kernel_rfl))
  f219 := Tryd.func115.trans (congrArg some (by kernel_rfl))
  f224 := Tryd.func123.trans (congrArg some (by kernel_rfl))
  f225 := Tryd.func122.trans (congrArg some (by kernel_rfl))
  f266 := Tryd.func128.trans (congrArg some (by kernel_rfl))
  f267 := Tryd.func124.trans (congrArg some (by kernel_rfl))
  f314 := Tryd.func129.trans (congrArg some (by kernel_rfl))
  t0 := Tryd.underlying0
  a0 := Tryd.isAgg0
  z0 := Tryd.sizeOf0
  v0 := Tryd.zeroValue0
  t3 := Tryd.underlying3
  a3 := Tryd.isAgg3
  z3 := Tryd.sizeOf3
  v3 := Tryd.zeroValue3
  t4 := Tryd.underlying4
  a4 := Tryd.isAgg4
  z4 := Tryd.sizeOf4
  v4 := Tryd.zeroValue4
  t5 := Tryd.underlying5
  a5 := Tryd.isAgg5
  z5 := Tryd.sizeOf5
  v5 := Tryd.zeroValue5
  t9 := Tryd.underlying9
  a9 := Tryd.isAgg9
  z9 := Tryd.sizeOf9
  v9 := Tryd.zeroValue9
  t46 := Tryd.underlying38
  a46 := Tryd.isAgg38
  z46 := Tryd.sizeOf38
  v46 := Tryd.zeroValue38
  t51 := Tryd.underlying41
  a51 := Tryd.isAgg41
  z51 := Tryd.sizeOf41
  v51 := Tryd.zeroValue41
  t146 := Tryd.underlying199
  a146 := Tryd.isAgg199
  z146 := Tryd.sizeOf199
  v146 := Tryd.zeroValue199
  g1 := by kernel_rfl }
theorem lays146 : Lays.n146 Tryd.prog libR := {
  mixed := by kernel_rfl
  f138 := Tryd.func113.trans (congrArg some (by kernel_rfl))
  f143 := Tryd.func119.trans (congrArg some (by kernel_rfl))
  f146 := Tryd.func114.trans (congrArg some (by kernel_rfl))
  f195 := Tryd.func117.trans (congrArg some (by kernel_rfl))
  f197 := Tryd.func131.trans (congrArg some (by kernel_rfl))
  f217 := Tryd.func121.trans (congrArg some (by kernel_rfl))
  f218 := Tryd.func118.trans (congrArg some (by kernel_rfl))
  f219 := Tryd.func115.trans (congrArg some (by kernel_rfl))
  f221 := Tryd.func120.trans (congrArg some (by kernel_rfl))
  f224 := Tryd.func123.trans (congrArg some (by kernel_rfl))
  f225 := Tryd.func122.trans (congrArg some (by kernel_rfl))
  f260 := Tryd.func134.trans (congrArg some (by kernel_rfl))
  f266 := Tryd.func128.trans (congrArg some (by kernel_rfl))
  f267 := Tryd.func124.trans (congrArg some (by kernel_rfl))
  f268 := Tryd.func127.trans (congrArg some (by kernel_rfl))
  f314 := Tryd.func129.trans (congrArg some (by kernel_rfl))
  t0 := Tryd.underlying0
  a0 := Tryd.isAgg0
  z0 := Tryd.sizeOf0
  v0 := Tryd.zeroValue0
  t3 := Tryd.underlying3
  a3 := Tryd.isAgg3
  z3 := Tryd.sizeOf3
  v3 := Tryd.zeroValue3
  t4 := Tryd.underlying4
  a4 := Tryd.isAgg4
  z4 := Tryd.sizeOf4
  v4 := Tryd.zeroValue4
  t5 := Tryd.underlying5
  a5 := Tryd.isAgg5
  z5 := Tryd.sizeOf5
  v5 := Tryd.zeroValue5
  t9 := Tryd.underlying9
  a9 := Tryd.isAgg9
  z9 := Tryd.sizeOf9
  v9 := Tryd.zeroValue9
  t21 := Tryd.underlying21
  a21 := Tryd.isAgg21
  z21 := Tryd.sizeOf21
  v21 := Tryd.zeroValue21
  t31 := Tryd.underlying189
  a31 := Tryd.isAgg189
  z31 := Tryd.sizeOf189
  v31 := Tryd.zeroValue189
  t46 := Tryd.underlying38
  a46 := Tryd.isAgg38
  z46 := Tryd.sizeOf38
  v46 := Tryd.zeroValue38
  t51 := Tryd.underlying41
  a51 := Tryd.isAgg41
  z51 := Tryd.sizeOf41
  v51 := Tryd.zeroValue41
  t105 := Tryd.underlying206
  a105 := Tryd.isAgg206
  z105 := Tryd.sizeOf206
  v105 := Tryd.zeroValue206
  t119 := Tryd.underlying195
  a119 := Tryd.isAgg195
  z119 := Tryd.sizeOf195
  t138 := Tryd.underlying221
  a138 := Tryd.isAgg221
  z138 := Tryd.sizeOf221
  v138 := Tryd.zeroValue221
  t139 := Tryd.underlying222
  a139 := Tryd.isAgg222
  z139 := Tryd.sizeOf222
  v139 := Tryd.zeroValue222
  t146 := Tryd.underlying199
  a146 := Tryd.isAgg199
  z146 := Tryd.sizeOf199
  v146 := Tryd.zeroValue199
  g1 := by kernel_rfl
  g3 := by kernel_rfl
  g4 := by kernel_rfl }
theorem lays145 : Lays.n145 Tryd.prog libR := {
  mixed := by kernel_rfl
  f145 := Tryd.func86.trans (congrArg some (by kernel_rfl))
  f217 := Tryd.func121.trans (congrArg some (by kernel_rfl))
  f219 := Tryd.func115.trans (congrArg some (by kernel_rfl))
  f220 := Tryd.func106.trans (congrArg some (by kernel_rfl))
  f224 := Tryd.func123.trans (congrArg some (by kernel_rfl))
  f225 := Tryd.func122.trans (congrArg some (by kernel_rfl))
  f266 := Tryd.func128.trans (congrArg some (by kernel_rfl))
  f267 := Tryd.func124.trans (congrArg some (by kernel_rfl))
  f314 := Tryd.func129.trans (congrArg some (by kernel_rfl))
  t3 := Tryd.underlying3
  a3 := Tryd.isAgg3
  z3 := Tryd.sizeOf3
  v3 := Tryd.zeroValue3
  t4 := Tryd.underlying4
  a4 := Tryd.isAgg4
  z4 := Tryd.sizeOf4
  v4 := Tryd.zeroValue4
  t5 := Tryd.underlying5
  a5 := Tryd.isAgg5
  z5 := Tryd.sizeOf5
  v5 := Tryd.zeroValue5
  t9 := Tryd.underlying9
  a9 := Tryd.isAgg9
  z9 := Tryd.sizeOf9
  v9 := Tryd.zeroValue9
  t46 := Tryd.underlying38
  a46 := Tryd.isAgg38
  z46 := Tryd.sizeOf38
  v46 := Tryd.zeroValue38
  t51 := Tryd.underlying41
  a51 := Tryd.isAgg41
  z51 := Tryd.sizeOf41
  v51 := Tryd.zeroValue41
  t59 := Tryd.underlying158
  a59 := Tryd.isAgg158
  z59 := Tryd.sizeOf158
  v59 := Tryd.zeroValue158
  t146 := Tryd.underlying199
  a146 := Tryd.isAgg199
  z146 := Tryd.sizeOf199
  v146 := Tryd.zeroValue199
  g1 := by kernel_rfl }
theorem libhi9 : (Tryd.prog.info? (libR.t 9)).map (fun i => (i.zero, i.size, i.bytes)) = some (some (.string ByteArray.empty), 1, 16) := by kernel_rfl
end Go.Proofs.YtfmblalbcodpmaaDoor
namespace Go.Proofs.YtfmblalbcodpmaaDoor
open Go.RowKit
def Blk (w : World) (g : Nat) (t : TypeId) (cs : Array Value) : Prop := w.heap[g]? = some (.cells cs t (0, 0))
section
variable {w w' : World} {g : Nat} {t : TypeId} {cs : Array Value}
theorem lt_of_heap {w : World} {g : Nat} {o : Obj} (h : w.heap[g]? = some o) : g < w.heap.size := by
  rcases Nat.lt_or_ge g w.heap.size with hlt | hge
  · exact hlt
  · rw [Array.getElem?_eq_none hge] at h; cases h
theorem Blk.lt (h : Blk w g t cs) : g < w.heap.size := lt_of_heap h
theorem Blk.cell (h : Blk w g t cs) (i : Nat) : w.cell? ⟨g, i, none⟩ = cs[i]? := cell_of_row w g i cs t (0, 0) h
theorem Blk.frozen (h : Blk w g t cs) (i : Nat) : w.frozen? ⟨g, i, none⟩ = false := by
  unfold Blk at h
  simp [World.frozen?, h]
theorem Blk.new (w : World) (t : TypeId) (cs : Array Value) : Blk (w.alloc (.cells cs t)) w.heap.size t cs := heap_alloc_new w _
theorem Blk.new1 (w : World) (o : Obj) (t : TypeId) (cs : Array Value) : Blk ((w.alloc o).alloc (.cells cs t)) (w.heap.size + 1) t cs := by
  have h := Blk.new (w.alloc o) t cs
  have e : (w.alloc o).heap.size = w.heap.size + 1 := by simp
  rwa [e] at h
theorem Blk.drew (h : Blk w g t cs) : Blk w.drew g t cs := h
theorem Blk.drewN (h : Blk w g t cs) (n : Nat) : Blk (w.drewN n) g t cs := h
theorem Blk.alloc (h : Blk w g t cs) (o : Obj) : Blk (w.alloc o) g t cs := (Below.heap_alloc w o g h.lt).trans h
theorem Blk.set_ (h : Blk w g t cs) (i : Nat) (u : Value) : Blk (w.setCell ⟨g, i, none⟩ u) g t (cs.setIfInBounds i u) := by
  unfold Blk at h ⊢
  simp [World.setCell, Array.getElem?_modify, h]
end
/-- What a call keeps: all blocks that were there, but those of S. -/
structure Kept (S : Nat → Prop) (w w' : World) : Prop where
  os : w'.os = w.os
  tape : w'.tape = w.tape
  output : w'.output = w.output
  size : w.heap.size ≤ w'.heap.size
  block : ∀ k, k < w.heap.size → ¬ S k → w'.heap[k]? = w.heap[k]?
def S0 : Nat → Prop := fun _ => False
def S1 (g : Nat) : Nat → Prop := fun k => k = g
section
variable {S S' : Nat → Prop} {a w w' : World}
theorem Kept.refl (S : Nat → Prop) (w : World) : Kept S w w := ⟨rfl, rfl, rfl, Nat.le_refl _, fun _ _ _ => rfl⟩
theorem Kept.trans_ (h : Kept S a w) (k : Kept S' w w') (hs : ∀ i, S' i → S i ∨ a.heap.size ≤ i) : Kept S a w' :=
  ⟨k.os.trans h.os, k.tape.trans h.tape, k.output.trans h.output, Nat.le_trans h.size k.size, fun i hi hn =>
    (k.block i (Nat.lt_of_lt_of_le hi h.size) (fun h2 => (hs i h2).elim hn (fun h3 => by omega))).trans (h.block i hi hn)⟩
theorem Kept.trans (h : Kept S a w) (k : Kept S w w') : Kept S a w' := h.trans_ k (fun _ h => .inl h)
theorem Kept.mono (h : Kept S a w) (hs : ∀ i, S i → S' i) : Kept S' a w := ⟨h.os, h.tape, h.output, h.size, fun i hi hn => h.block i hi (fun x => hn (hs i x))⟩
theorem Kept.of0 (h : Kept S0 a w) (S : Nat → Prop) : Kept S a w := h.mono (fun _ x => x.elim)
theorem Kept.then0 (h : Kept S a w) (k : Kept S0 w w') : Kept S a w' := h.trans (k.of0 S)
theorem Kept.drew (h : Kept S a w) : Kept S a w.drew := ⟨h.os, h.tape, h.output, h.size, h.block⟩
theorem Kept.drewN (h : Kept S a w) (n : Nat) : Kept S a (w.drewN n) := ⟨h.os, h.tape, h.output, h.size, h.block⟩
theorem Kept.alloc (h : Kept S a w) (o : Obj) : Kept S a (w.alloc o) :=
  ⟨h.os, h.tape, h.output, Nat.le_trans h.size (by simp), fun i hi hn => (Below.heap_alloc w o i (Nat.lt_of_lt_of_le hi h.size)).trans (h.block i hi hn)⟩
theorem Kept.setCell (h : Kept S a w) {p : Addr} (hp : S p.block ∨ a.heap.size ≤ p.block) (u : Value) : Kept S a (w.setCell p u) :=
  ⟨h.os, h.tape, h.output, by simpa [World.setCell] using h.size, fun i hi hn => (Below.heap_setCell w p u i (by
    rintro rfl
    rcases hp with hp | hp
    · exact hn hp
    · omega)).trans (h.block i hi hn)⟩
theorem Kept.blk {g : Nat} {t : TypeId} {cs : Array Value} (h : Kept S a w) (hb : Blk a g t cs) (hn : ¬ S g) : Blk w g t cs := (h.block g hb.lt hn).trans hb
theorem Kept.row {g : Nat} {t : TypeId} {n : Nat} {f : Nat → Value} (h : Kept S a w) (hb : a.rowIs g t n f) (hn : ¬ S g) : w.rowIs g t n f := hb.of_block (h.block g hb.lt hn)
theorem Kept.cell (h : Kept S a w) {p : Addr} (hp : p.block < a.heap.size) (hn : ¬ S p.block) : w.cell? p = a.cell? p := World.cell?_of_block (w := a) (h.block p.block hp hn)
end
theorem ret_int {k : IntKind} {a b : Int} (h : a = b) : Ending.returned (.int k a) = .returned (.int k b) := by rw [h]
theorem ret_bool {a b : Bool} (h : a = b) : Ending.returned (.bool a) = .returned (.bool b) := by rw [h]
end Go.Proofs.YtfmblalbcodpmaaDoor
namespace Go.Proofs.YtfmblalbcodpmaaDoor
open Go.RowKit
/-- A slice value's cells, one for an element: nothing is asked of an empty one. -/
def Sl (w : World) (A : Option Addr) (n : Nat) (v : Nat → Value) : Prop := 0 < n → ∃ b o, A = some ⟨b, o, none⟩ ∧ ∀ i, i < n → w.cell? ⟨b, o + i, none⟩ = some (v i)
section
variable {w w' : World} {A : Option Addr} {n B : Nat} {v : Nat → Value}
theorem Sl.congr {u : Nat → Value} (h : Sl w A n v) (e : ∀ i, i < n → v i = u i) : Sl w A n u := fun hn =>
  let ⟨b, o, ea, hc⟩ := h hn
  ⟨b, o, ea, fun i hi => by rw [hc i hi, e i hi]⟩
theorem Sl.take (h : Sl w A n v) {m : Nat} (hm : m ≤ n) : Sl w A m v := fun hn =>
  let ⟨b, o, e, hc⟩ := h (by omega)
  ⟨b, o, e, fun i hi => hc i (by omega)⟩
theorem Sl.of_row {b t N : Nat} (h : w.rowIs b t N v) {m : Nat} (hm : m ≤ N) : Sl w (some ⟨b, 0, none⟩) m v := fun _ => ⟨b, 0, rfl, fun i hi => by rw [Nat.zero_add]; exact h.cell (by omega)⟩
end
theorem setCells_kept (bb : Nat) : ∀ (vs : List Value) (off : Nat) (w : World), Kept (S1 bb) w (w.setCells bb off vs)
  | [], _, w => Kept.refl _ w
  | v :: r, off, w => ((Kept.refl (S1 bb) w).setCell (p := ⟨bb, off, none⟩) (.inl rfl) v).trans_ (setCells_kept bb r (off + 1) _) (fun _ h => .inl h)
section
variable {P : Program}
end
section
variable {P : Program}
end
end Go.Proofs.YtfmblalbcodpmaaDoor
namespace Go.Proofs.YtfmblalbcodpmaaDoor
open Go.RowKit
/-- An owned slice: nil, or the head of a block from 'base' on; its cells are F's; all cells of its block are Q's. -/
def Own (w : World) (base e size : Nat) (Q : Value → Prop) (v : Value) (n : Nat) (F : Nat → Value) : Prop :=
  (v = .slice none 0 0 ∧ n = 0) ∨
  ∃ g cap fr, v = .slice (some ⟨g, 0, none⟩) n cap ∧ base ≤ g ∧ n ≤ cap ∧ cap ≤ maxLen ∧ w.rowIs g e (cap * size) fr ∧ (∀ i, i < n * size → fr i = F i) ∧ (∀ i, i < cap * size → Q (fr i))
/-- A function's cells as a list. -/
def rng (n : Nat) (F : Nat → Value) : List Value := (List.range n).map F
theorem length_rng (n : Nat) (F : Nat → Value) : (rng n F).length = n := by simp [rng]
theorem rng_get {n : Nat} {F : Nat → Value} {j : Nat} (h : j < n) : (rng n F)[j]? = some (F j) := by simp [rng, h]
theorem rng_some {n : Nat} {F : Nat → Value} {j : Nat} {u : Value} (h : (rng n F)[j]? = some u) : j < n ∧ u = F j := by
  have hj : j < n := by have := (List.getElem?_eq_some_iff.1 h).1; rwa [length_rng] at this
  rw [rng_get hj] at h
  exact ⟨hj, (Option.some.inj h).symm⟩
theorem rng_mem {n : Nat} {F : Nat → Value} {P : Value → Prop} (h : ∀ i, i < n → P (F i)) : ∀ u ∈ rng n F, P u := by
  intro u hu
  obtain ⟨i, hi, rfl⟩ := List.mem_map.1 hu
  exact h i (List.mem_range.1 hi)
/-- One list of cells behind another one. -/
def after (n : Nat) (F V : Nat → Value) : Nat → Value := fun i => if i < n then F i else V (i - n)
section
variable {w w' : World} {base e size n : Nat} {Q : Value → Prop} {v : Value} {F : Nat → Value}
theorem Own.nil (w : World) (base e size : Nat) (Q : Value → Prop) (F : Nat → Value) : Own w base e size Q (.slice none 0 0) 0 F := .inl ⟨rfl, rfl⟩
theorem Own.congr {G : Nat → Value} (h : Own w base e size Q v n F) (he : ∀ i, i < n * size → F i = G i) : Own w base e size Q v n G := by
  rcases h with h | ⟨g, cap, fr, h1, h2, h3, h4, h5, h6, h7⟩
  · exact .inl h
  · exact .inr ⟨g, cap, fr, h1, h2, h3, h4, h5, fun i hi => (h6 i hi).trans (he i hi), h7⟩
theorem Own.mono {b : Nat} (h : Own w base e size Q v n F) (hb : b ≤ base) : Own w b e size Q v n F := by
  rcases h with h | ⟨g, cap, fr, h1, h2, r⟩
  · exact .inl h
  · exact .inr ⟨g, cap, fr, h1, by omega, r⟩
theorem Own.kept {S : Nat → Prop} (h : Own w base e size Q v n F) (hk : Kept S w w') (hS : ∀ g, v.ownBlock = some g → ¬ S g) : Own w' base e size Q v n F := by
  rcases h with h | ⟨g, cap, fr, rfl, h2, h3, h4, h5, r⟩
  · exact .inl h
  · exact .inr ⟨g, cap, fr, rfl, h2, h3, h4, hk.row h5 (hS g rfl), r⟩
theorem Own.lt (h : Own w base e size Q v n F) : ∀ g, v.ownBlock = some g → base ≤ g ∧ g < w.heap.size := by
  rcases h with ⟨rfl, _⟩ | ⟨g, cap, fr, rfl, h2, h3, h4, h5, r⟩
  · intro g h; simp [Value.ownBlock] at h
  · intro g' h
    obtain rfl : g = g' := by simpa [Value.ownBlock] using h
    exact ⟨h2, h5.lt⟩
end
theorem zeroCells_get (z : Array Value) (n j : Nat) (hz : 0 < z.size) (h : j < n * z.size) : ∃ u, (Builtin.zeroCells z n)[j]? = some u ∧ u ∈ z := by
  refine ⟨z[j % z.size]!, ?_, ?_⟩
  · simp [Builtin.zeroCells, h]
  · have hj : j % z.size < z.size := Nat.mod_lt _ hz
    rw [getElem!_pos z _ hj]
    exact Array.getElem_mem hj
section
variable {P : Program}
theorem run_append_all (w : World) (base t ty e : TypeId) (i : TypeInfo) (z : Value) (size bytes : Nat) (ht : P.underlying t = some (.slice e)) (hi : P.info? e = some i) (hz : i.zero = some z)
    (hsize : i.size = size) (hby : i.bytes = bytes) (hzs : z.cells.size = size) (hsz : 0 < size) (Q : Value → Prop) (hQz : ∀ u ∈ z.cells, Q u)
    (v : Value) (n : Nat) (F : Nat → Value) (hown : Own w base e size Q v n F)
    (A : Option Addr) (m c : Nat) (V : Nat → Value) (hA : Sl w A (m * size) V) (hA0 : A = none → m = 0) (hQ : ∀ j, j < m * size → Q (V j)) (h1 : ∀ j, j < m * size → (V j).oneCell' = true)
    (h63 : n + m ≤ maxLen) (hbytes : (n + m) * bytes ≤ 140737488355328) (hbase : base ≤ w.heap.size) :
    ∃ v' w', (Builtin.append_ #[t, t] ty #[v, .slice A m c]).run P w = .ok v' w' ∧ Own w' base e size Q v' (n + m) (after (n * size) F V) ∧ w.grownBy w' v.ownBlock ∧
      (v'.ownBlock = v.ownBlock ∨ v'.ownBlock = some w.heap.size) ∧ (v' = .slice none 0 0 → v = .slice none 0 0 ∧ m = 0) := by
  subst hsize
  subst hby
  have hsmall : n + m ≤ 9223372036854775807 := by simp only [maxLen] at h63; omega
  by_cases hm : m = 0
  · subst hm
    have hcongr : ∀ j, j < n * i.size → F j = after (n * i.size) F V j := fun j hj => by unfold after; rw [if_pos hj]
    refine ⟨v, w, ?_, hown.congr hcongr, ⟨rfl, rfl, rfl, Nat.le_refl _, fun _ _ _ => rfl⟩, .inl rfl, fun h => ⟨h, rfl⟩⟩
    rcases hown with ⟨rfl, rfl⟩ | ⟨g, cap, fr, rfl, _, hnc, _⟩
    · cases A <;> simp [Builtin.append_, run_underlying ht, sizeOf, typeInfo, hi, Builtin.lenOf, Builtin.firstCells, loadCells, loadCellsFrom]
    · cases A <;> simp [Builtin.append_, run_underlying ht, sizeOf, typeInfo, hi, Builtin.lenOf, Builtin.firstCells, hnc, storeCells, loadCells, loadCellsFrom]
  · have hpos : 0 < m * i.size := Nat.mul_pos (by omega) hsz
    obtain ⟨b, o, rfl, hc⟩ := hA hpos
    have hl : (rng (m * i.size) V).length = m * i.size := length_rng _ _
    have hnews : ∀ j u, (rng (m * i.size) V)[j]? = some u → w.cell? ((⟨b, o, none⟩ : Addr).add j) = some u := by
      intro j u hu
      obtain ⟨hj, rfl⟩ := rng_some hu
      rw [Addr.add_lit]
      exact hc j hj
    have h1' : ∀ u ∈ rng (m * i.size) V, u.oneCell' = true := rng_mem h1
    -- a new array, whatever was there before
    have grown : ∀ (old : Nat) (xs : List Value), xs.length = n * i.size → (∀ j, j < n * i.size → xs[j]? = some (F j)) → (∀ j, j < n * i.size → Q (F j)) → ∀ (row : Option Nat),
        Own (w.drew.alloc (.cells (xs.toArray ++ (rng (m * i.size) V).toArray ++ Builtin.zeroCells z.cells (grownCap w (n + m) old e - (n + m))) e)) base e i.size Q
          (.slice (some ⟨w.heap.size, 0, none⟩) (n + m) (grownCap w (n + m) old e)) (n + m) (after (n * i.size) F V) ∧
        w.grownBy (w.drew.alloc (.cells (xs.toArray ++ (rng (m * i.size) V).toArray ++ Builtin.zeroCells z.cells (grownCap w (n + m) old e - (n + m))) e)) row := by
      intro old xs hxl hxs hxq row
      have hge := grownCap_ge w (n + m) old e
      have hcm : grownCap w (n + m) old e ≤ maxLen := grownCap_le_maxLen w (n + m) old e h63
      generalize hC : grownCap w (n + m) old e = C at *
      have hCs : C * i.size = (n + m) * i.size + (C - (n + m)) * i.size := by rw [← Nat.add_mul]; congr 1; omega
      have hnm : (n + m) * i.size = n * i.size + m * i.size := Nat.add_mul _ _ _
      have hsz2 : (xs.toArray ++ (rng (m * i.size) V).toArray ++ Builtin.zeroCells z.cells (C - (n + m))).size = C * i.size := by
        simp only [Array.size_append, List.size_toArray, size_zeroCells, hzs, hxl, hl]
        omega
      have hcell : ∀ j, j < C * i.size → ∃ u, (xs.toArray ++ (rng (m * i.size) V).toArray ++ Builtin.zeroCells z.cells (C - (n + m)))[j]? = some u ∧ (j < (n + m) * i.size → u = after (n * i.size) F V j) ∧ Q u := by
        intro j hj
        by_cases hj1 : j < n * i.size
        · refine ⟨F j, ?_, fun _ => by unfold after; rw [if_pos hj1], hxq j hj1⟩
          rw [Array.append_assoc, Array.getElem?_append_left (by simpa [hxl] using hj1)]
          simpa using hxs j hj1
        · by_cases hj2 : j < (n + m) * i.size
          · refine ⟨V (j - n * i.size), ?_, fun _ => by unfold after; rw [if_neg hj1], hQ _ (by omega)⟩
            rw [Array.getElem?_append_left (by simp [hxl, hl]; omega), Array.getElem?_append_right (by simp [hxl]; omega)]
            simp only [List.size_toArray, hxl, List.getElem?_toArray]
            exact rng_get (by omega)
          · obtain ⟨u, hu, hmem⟩ := zeroCells_get z.cells (C - (n + m)) (j - (n + m) * i.size) (by omega) (by rw [hzs]; omega)
            refine ⟨u, ?_, fun h => absurd h hj2, hQz u hmem⟩
            rw [Array.getElem?_append_right (by simp [hxl, hl]; omega)]
            simp only [Array.size_append, List.size_toArray, hxl, hl]
            rw [← hnm]
            exact hu
      refine ⟨.inr ⟨w.heap.size, C, fun j => ((xs.toArray ++ (rng (m * i.size) V).toArray ++ Builtin.zeroCells z.cells (C - (n + m)))[j]?).getD undef, rfl, hbase, hge, hcm, ⟨_, heap_alloc_new w.drew _, hsz2, fun j hj => ?_⟩, fun j hj => ?_, fun j hj => ?_⟩, ⟨rfl, rfl, rfl, by simp, fun k hk _ => Below.heap_alloc w.drew _ k hk⟩⟩
      · obtain ⟨u, hu, _⟩ := hcell j hj
        simp only [hu, Option.getD_some]
      · obtain ⟨u, hu, he, _⟩ := hcell j (by omega)
        simp only [hu, Option.getD_some]
        exact he hj
      · obtain ⟨u, hu, _, hq⟩ := hcell j hj
        simp only [hu, Option.getD_some]
        exact hq
    rcases hown with ⟨rfl, rfl⟩ | ⟨g, cap, fr, rfl, hbg, hnc, hcm, hrow, hF, hQF⟩
    · have hr := run_append_nil (P := P) w t ty e i z ht hi hz ⟨b, o, none⟩ m c _ hl hnews (by omega) (by omega) (by have hb := hbytes; simp only [Nat.zero_add] at hb; omega)
      have hgr := grown 0 [] (by simp) (fun j hj => absurd hj (by omega)) (fun j hj => absurd hj (by omega)) (Value.ownBlock (.slice none 0 0))
      simp only [Nat.zero_add, Array.empty_append] at hgr ⊢
      exact ⟨_, _, hr, hgr.1, hgr.2, .inr rfl, fun h => by cases h⟩
    · obtain ⟨cur, hg, hcs, hcur⟩ := hrow
      by_cases hroom : n + m ≤ cap
      · have hmul : (n + m) * i.size ≤ cap * i.size := Nat.mul_le_mul_right _ hroom
        have hnm : (n + m) * i.size = n * i.size + m * i.size := Nat.add_mul _ _ _
        have hfit : n * i.size + (rng (m * i.size) V).length ≤ cur.size := by rw [hl, hcs]; omega
        have hmin : min (n * i.size) (cap * i.size) = n * i.size := by omega
        have hr := run_append_room (P := P) w t ty e i ht hi g n cap cur hg ⟨b, o, none⟩ m c _ hl hnews h1' hroom hfit
        refine ⟨_, _, hr, .inr ⟨g, cap, fun j => if j < n * i.size then fr j else if j < (n + m) * i.size then V (j - n * i.size) else fr j, rfl, hbg, hroom, hcm, ⟨_, setRow_heap w g cur _ e _ hg, ?_, fun j hj => ?_⟩, fun j hj => ?_, fun j hj => ?_⟩, ⟨rfl, rfl, rfl, by simp, fun k _ hk => setRow_other w g k _ (fun e => hk (by simp [Value.ownBlock, e]))⟩, .inl rfl, fun h => by cases h⟩
        · simp only [List.size_toArray, List.length_append, List.length_take, List.length_drop, Array.length_toList, hl, hcs]
          omega
        · simp only [List.getElem?_toArray, hl]
          by_cases hj1 : j < n * i.size
          · rw [if_pos hj1, List.append_assoc, List.getElem?_append_left (by simp only [List.length_take, Array.length_toList, hcs, hmin]; exact hj1), List.getElem?_take, if_pos hj1]
            simpa using hcur j hj
          · rw [if_neg hj1]
            by_cases hj2 : j < (n + m) * i.size
            · rw [if_pos hj2, List.getElem?_append_left (by simp only [List.length_append, List.length_take, Array.length_toList, hcs, hmin, hl]; omega), List.getElem?_append_right (by simp only [List.length_take, Array.length_toList, hcs, hmin]; omega)]
              simp only [List.length_take, Array.length_toList, hcs]
              rw [hmin]
              exact rng_get (by omega)
            · rw [if_neg hj2, List.getElem?_append_right (by simp only [List.length_append, List.length_take, Array.length_toList, hcs, hmin, hl]; omega)]
              simp only [List.length_append, List.length_take, Array.length_toList, hl, hcs, List.getElem?_drop]
              rw [show n * i.size + m * i.size + (j - (min (n * i.size) (cap * i.size) + m * i.size)) = j by omega]
              simpa using hcur j hj
        · by_cases hj1 : j < n * i.size
          · simp only [after]; rw [if_pos hj1, if_pos hj1]; exact hF j hj1
          · simp only [after]; rw [if_neg hj1, if_neg hj1, if_pos hj]
        · by_cases hj1 : j < n * i.size
          · show Q (if _ then _ else _); rw [if_pos hj1]; exact hQF j hj
          · show Q (if _ then _ else _); rw [if_neg hj1]
            by_cases hj2 : j < (n + m) * i.size
            · rw [if_pos hj2]; exact hQ _ (by omega)
            · rw [if_neg hj2]; exact hQF j hj
      · have hmul : n * i.size ≤ cap * i.size := Nat.mul_le_mul_right _ hnc
        have hxs : ∀ j, j < n * i.size → (rng (n * i.size) F)[j]? = some (F j) := fun j hj => rng_get hj
        have holds : ∀ j u, (rng (n * i.size) F)[j]? = some u → w.cell? ((⟨g, 0, none⟩ : Addr).add j) = some u := by
          intro j u hu
          obtain ⟨hj, rfl⟩ := rng_some hu
          rw [Addr.add_lit, Nat.zero_add, cell_of_row w g j cur e (0, 0) hg, hcur j (by omega), hF j hj]
        have hr := run_append_grow (P := P) w t ty e i z ht hi hz ⟨g, 0, none⟩ n cap _ (length_rng _ _) holds ⟨b, o, none⟩ m c _ hl hnews (by omega) (by omega) (growslice_fits (by omega) hbytes)
        have hgr := grown cap _ (length_rng _ _) hxs (fun j hj => by rw [← hF j hj]; exact hQF j (by omega)) (Value.ownBlock (.slice (some ⟨g, 0, none⟩) n cap))
        exact ⟨_, _, hr, hgr.1, hgr.2, .inr rfl, fun h => by cases h⟩
end
structure Appended (w w' : World) (base e size : Nat) (Q : Value → Prop) (v v' : Value) (k : Nat) (G : Nat → Value) (m : Nat) : Prop where
  own : Own w' base e size Q v' k G
  grown : w.grownBy w' v.ownBlock
  block : v'.ownBlock = v.ownBlock ∨ v'.ownBlock = some w.heap.size
  nil : v' = .slice none 0 0 → v = .slice none 0 0 ∧ m = 0
section
variable {P : Program}
theorem wpList_append_all {w : World} {ops : Array Oper} {rest : List Oper} {o : Oper} {a : Act} {Q' : Exit → Act → World → Prop} (hgd : o.guard = none) (s x : Operand) (t : TypeId)
    (ho : o.op = .call { callee := .builtin .append, args := #[s, x], argTypes := #[t, t] })
    (base e : TypeId) (z : Value) (size bytes : Nat) (ht : P.underlying t = some (.slice e)) (hinfo : (P.info? e).map (fun i => (i.zero, i.size, i.bytes)) = some (some z, size, bytes))
    (hzs : z.cells.size = size) (hsz : 0 < size) (Q : Value → Prop) (hQz : ∀ u ∈ z.cells, Q u)
    (v : Value) (n : Nat) (F : Nat → Value) (hs : a.eval s = v) (hown : Own w base e size Q v n F)
    (A : Option Addr) (m c : Nat) (V : Nat → Value) (hx : a.eval x = .slice A m c) (hA : Sl w A (m * size) V) (hA0 : A = none → m = 0) (hQ : ∀ j, j < m * size → Q (V j)) (h1 : ∀ j, j < m * size → (V j).oneCell' = true)
    (h63 : n + m ≤ maxLen) (hbytes : (n + m) * bytes ≤ 140737488355328) (hbase : base ≤ w.heap.size)
    (h : ∀ v' w', Appended w w' base e size Q v v' (n + m) (after (n * size) F V) m → wpList P ops Q' rest (a.put o.dst v') w') : wpList P ops Q' (o :: rest) a w := by
  refine wpList_plain hgd fun K hK => ?_
  obtain ⟨i, hi, hzz⟩ := Option.map_eq_some_iff.1 hinfo
  simp only [Prod.mk.injEq] at hzz
  obtain ⟨v', w', hr, h2, h3, h4, h5⟩ := run_append_all (P := P) w base t o.type e i z size bytes ht hi hzz.1 hzz.2.1 hzz.2.2 hzs hsz Q hQz v n F hown A m c V hA hA0 hQ h1 h63 hbytes hbase
  unfold Oper.wp execOp
  simp only [ho, resolve, invoke, builtin, Sem.run_bind, Sem.run_pure, Result.andThen_ok, List.map_toArray, List.map_cons, List.map_nil, hs, hx, hr]
  exact hK _ _ (h v' w' ⟨h2, h3, h4, h5⟩)
end
section
variable {P : Program}
end
section
variable {P : Program}
end
end Go.Proofs.YtfmblalbcodpmaaDoor
namespace Go.Proofs.YtfmblalbcodpmaaDoor
open Go.RowKit
def SpTab (w : World) : Prop := ∀ c, c < 256 → w.cell? ⟨libR.g 0, c, none⟩ = some (.int .u8 (if Lib.isSp (UInt8.ofNat c) then 1 else 0))
theorem SpTab.kept {w w' : World} {S : Nat → Prop} (h : SpTab w) (hk : Kept S w w') (hS : ¬ S (libR.g 0)) : SpTab w' := fun c hc => by
  have h0 := h c hc
  rw [hk.cell (p := ⟨libR.g 0, c, none⟩) (World.block_lt_of_cell? _ _ h0) hS]
  exact h0
theorem SpTab.kept0 {w w' : World} (h : SpTab w) (hk : Kept S0 w w') : SpTab w' := h.kept hk (fun x => x)
def Ascii (s : ByteArray) : Prop := ∀ (j : Nat) b, s.data.toList[j]? = some b → b.toNat < 128
def wordsP (s : ByteArray) : List ByteArray := (Lib.fields s.data.toList).map fun l => ⟨l.toArray⟩
def wordP (s : ByteArray) (n : Nat) : ByteArray :=
  if (wordsP s).length = 1 then (wordsP s).getD 0 ByteArray.empty else (wordsP s).getD n ByteArray.empty
theorem cntF_len : ∀ (l : List UInt8) (ws : Bool), Lib.cntF ws l ≤ l.length
  | [], _ => Nat.le_refl _
  | b :: t, ws => by
    have := cntF_len t (Lib.isSp b)
    simp only [Lib.cntF, List.length_cons]
    split <;> omega
theorem fields_any (s : ByteArray) (w : World) (hs : s.size < 4294967281) (ha : Ascii s) (hsp : SpTab w) :
    Calls Tryd.prog 116 #[.string s] w fun e w' => e = .returned (.slice (some ⟨w.heap.size, 0, none⟩) (wordsP s).length (wordsP s).length) ∧ w' = w.alloc (.cells ((wordsP s).map Value.string).toArray 9) := by
  refine (Any.strings_Fields_core lays157 libhi9 s w hs ha hsp).mono fun e w' ⟨he, hw⟩ => ⟨?_, ?_⟩
  · rw [he]; simp [wordsP]
  · rw [hw]; simp [wordsP, Function.comp_def, libR]
set_option maxRecDepth 100000 in
set_option maxHeartbeats 1600000 in
theorem word_any (s : ByteArray) (n : Nat) (w : World) (hs : s.size < 4294967281) (_hn : n ≤ 9223372036854775806) (ha : Ascii s) (hsp : SpTab w) :
    Calls Tryd.prog 112 #[.string s, .int .i64 (n : Int)] w fun e w' => e = .returned (.string (wordP s n)) ∧ Kept S0 w w' := by
  have HF := Lib.hid (fields_any s w hs ha hsp)
  have hlen : (wordsP s).length ≤ 9223372036854775806 := by
    have h1 : (wordsP s).length = Lib.cntF true s.data.toList := by unfold wordsP; rw [List.length_map, Lib.fields_length]
    have h2 := cntF_len s.data.toList true
    have h3 : s.data.toList.length = s.size := (Lib.size_eq s).symm
    omega
  by_cases h1 : (wordsP s).length = 1
  · have hw : wordP s n = (wordsP s).getD 0 ByteArray.empty := if_pos h1
    rw [hw]
    have hk : Kept S0 w (w.alloc (.cells ((wordsP s).map Value.string).toArray 9)) := (Kept.refl S0 w).alloc _
    have hc : (w.alloc (.cells ((wordsP s).map Value.string).toArray 9)).cell? ⟨w.heap.size, 0, none⟩ = some (.string ((wordsP s).getD 0 ByteArray.empty)) := by
      have hb := (Blk.new w 9 ((wordsP s).map Value.string).toArray).cell 0
      rw [hb]
      simp [List.getD_eq_getElem?_getD, List.getElem?_eq_getElem (show 0 < (wordsP s).length by omega)]
    have HK := Lib.hid hk
    have H1 := Lib.hid h1
    clear hk hw
    rw [h1] at HF
    clear h1
    go_enter Tryd.func112, Tryd.ntmps112
    go_wp2_with fail
    refine HF.out.mono ?_
    rintro e w' ⟨rfl, rfl⟩
    generalize (w.alloc (.cells ((wordsP s).map Value.string).toArray 9)) = w1 at *
    generalize w.heap.size = b at *
    go_wp2_with fail
    go_ret
    exact ⟨rfl, HK.out⟩
  · by_cases h2 : n < (wordsP s).length
    · have hw : wordP s n = (wordsP s).getD n ByteArray.empty := if_neg h1
      rw [hw]
      have hk : Kept S0 w (w.alloc (.cells ((wordsP s).map Value.string).toArray 9)) := (Kept.refl S0 w).alloc _
      have hc : (w.alloc (.cells ((wordsP s).map Value.string).toArray 9)).cell? ⟨w.heap.size, n, none⟩ = some (.string ((wordsP s).getD n ByteArray.empty)) := by
        have hb := (Blk.new w 9 ((wordsP s).map Value.string).toArray).cell n
        rw [hb]
        simp [List.getD_eq_getElem?_getD, List.getElem?_eq_getElem h2]
      have HK := Lib.hid hk
      clear hk hw
      generalize hlw : (wordsP s).length = len at *
      clear hlw
      have hne : ((len : Int) == 1) = false := by simp; omega
      have hne2 : ¬ len = 1 := h1
      go_enter Tryd.func112, Tryd.ntmps112
      go_wp2_with fail
      refine HF.out.mono ?_
      rintro e w' ⟨rfl, rfl⟩
      generalize (w.alloc (.cells ((wordsP s).map Value.string).toArray 9)) = w1 at *
      generalize w.heap.size = b at *
      go_wp2_with fail
      go_ret
      exact ⟨rfl, HK.out⟩
    · have hw : wordP s n = ByteArray.empty := by
        unfold wordP
        rw [if_neg h1, List.getD_eq_getElem?_getD, List.getElem?_eq_none (by omega)]
        rfl
      rw [hw]
      have HK := Lib.hid (show Kept S0 w (w.alloc (.cells ((wordsP s).map Value.string).toArray 9)) from (Kept.refl S0 w).alloc _)
      clear hw
      generalize hlw : (wordsP s).length = len at *
      clear hlw
      have hne : ((len : Int) == 1) = false := by simp; omega
      have hne2 : ¬ len = 1 := h1
      go_enter Tryd.func112, Tryd.ntmps112
      go_wp2_with fail
      refine HF.out.mono ?_
      rintro e w' ⟨rfl, rfl⟩
      generalize (w.alloc (.cells ((wordsP s).map Value.string).toArray 9)) = w1 at *
      go_wp2_with fail
      go_ret
      exact ⟨rfl, HK.out⟩
end Go.Proofs.YtfmblalbcodpmaaDoor
namespace Go.Proofs.YtfmblalbcodpmaaDoor
open Go.RowKit
section
variable {P : Program} {ops : Array Oper} {Q : Exit → Act → World → Prop}
def runBuilds (P : Program) : List Oper → Act → Option Act
  | [], a => some a
  | o :: r, a =>
    if o.guard.isNone then
      match o.op with
      | .build t parts =>
        if (P.built t (parts.map fun (i, x) => (i, a.eval x)).toList).isSome then runBuilds P r (a.put o.dst (.agg ((P.built t (parts.map fun (i, x) => (i, a.eval x)).toList).getD #[]))) else none
      | .move x => runBuilds P r (a.put o.dst (a.eval x))
      | _ => none
    else none
theorem wpList_move {rest : List Oper} {o : Oper} {a : Act} {w : World} (hg : o.guard = none) (x : Operand) (ho : o.op = .move x) (h : wpList P ops Q rest (a.put o.dst (a.eval x)) w) : wpList P ops Q (o :: rest) a w :=
  wpList_plain hg fun K hK => by
    unfold Oper.wp execOp
    simp only [ho, Sem.run_pure]
    exact hK _ _ h
theorem wpList_builds : ∀ (l : List Oper) {rest : List Oper} {a a' : Act} {w : World}, runBuilds P l a = some a' → wpList P ops Q rest a' w → wpList P ops Q (l ++ rest) a w
  | [], _, a, a', w, h, k => by
    simp only [runBuilds, Option.some.injEq] at h
    subst h
    exact k
  | o :: r, rest, a, a', w, h, k => by
    unfold runBuilds at h
    split at h
    · rename_i hg
      split at h
      · rename_i t parts ho
        split at h
        · rename_i hb
          exact wpList_build (by simpa using hg) t parts ho hb (wpList_builds r h k)
        · cases h
      · rename_i x ho
        exact wpList_move (by simpa using hg) x ho (wpList_builds r h k)
      · cases h
    · cases h
theorem runBuilds_get {l : List Oper} {a : Act} (h : (runBuilds P l a).isSome = true) : runBuilds P l a = some ((runBuilds P l a).getD a) := by
  obtain ⟨x, hx⟩ := Option.isSome_iff_exists.1 h
  rw [hx]
  rfl
end
end Go.Proofs.YtfmblalbcodpmaaDoor
namespace Go.Proofs.YtfmblalbcodpmaaDoor
open Go.RowKit
structure Grp where
  first : Nat
  ahead : ByteArray
  names : ByteArray
  types : ByteArray
  imm : Nat
  bits : ByteArray
  plain : Bool
def Grp.cells (g : Grp) : List Value := [.int .i64 (g.first : Int), .string g.ahead, .string g.names, .string g.types, .int .u8 (g.imm : Int), .string g.bits, .bool g.plain]
def gcells (l : List Grp) : Array Value := (l.flatMap Grp.cells).toArray
def t_control : List Grp := [⟨0, ⟨#[]⟩, ⟨#[117, 110, 114, 101, 97, 99, 104, 97, 98, 108, 101, 32, 110, 111, 112]⟩, ⟨#[58]⟩, 0, ⟨#[]⟩, false⟩,
  ⟨2, ⟨#[]⟩, ⟨#[98, 108, 111, 99, 107, 32, 108, 111, 111, 112, 32, 105, 102]⟩, ⟨#[58]⟩, 1, ⟨#[]⟩, false⟩,
  ⟨12, ⟨#[98, 114]⟩, ⟨#[32, 95, 105, 102]⟩, ⟨#[58]⟩, 2, ⟨#[]⟩, false⟩,
  ⟨14, ⟨#[]⟩, ⟨#[98, 114, 95, 116, 97, 98, 108, 101]⟩, ⟨#[58]⟩, 3, ⟨#[]⟩, false⟩,
  ⟨15, ⟨#[]⟩, ⟨#[114, 101, 116, 117, 114, 110]⟩, ⟨#[58]⟩, 0, ⟨#[]⟩, false⟩,
  ⟨16, ⟨#[]⟩, ⟨#[99, 97, 108, 108]⟩, ⟨#[58]⟩, 4, ⟨#[]⟩, false⟩,
  ⟨17, ⟨#[]⟩, ⟨#[99, 97, 108, 108, 95, 105, 110, 100, 105, 114, 101, 99, 116]⟩, ⟨#[58]⟩, 5, ⟨#[]⟩, false⟩,
  ⟨26, ⟨#[]⟩, ⟨#[100, 114, 111, 112, 32, 115, 101, 108, 101, 99, 116]⟩, ⟨#[58]⟩, 0, ⟨#[]⟩, false⟩,
  ⟨28, ⟨#[]⟩, ⟨#[115, 101, 108, 101, 99, 116, 95, 116]⟩, ⟨#[58]⟩, 26, ⟨#[]⟩, false⟩,
  ⟨32, ⟨#[108, 111, 99, 97, 108, 46]⟩, ⟨#[103, 101, 116, 32, 115, 101, 116, 32, 116, 101, 101]⟩, ⟨#[58]⟩, 6, ⟨#[]⟩, false⟩,
  ⟨35, ⟨#[103, 108, 111, 98, 97, 108, 46]⟩, ⟨#[103, 101, 116, 32, 115, 101, 116]⟩, ⟨#[58]⟩, 7, ⟨#[]⟩, false⟩,
  ⟨37, ⟨#[116, 97, 98, 108, 101, 46]⟩, ⟨#[103, 101, 116, 32, 115, 101, 116]⟩, ⟨#[58]⟩, 8, ⟨#[]⟩, false⟩,
  ⟨40, ⟨#[]⟩, ⟨#[105, 51, 50, 46, 108, 111, 97, 100, 32, 105, 54, 52, 46, 108, 111, 97, 100, 32, 102, 51, 50, 46, 108, 111, 97, 100, 32, 102, 54, 52, 46, 108, 111, 97, 100]⟩, ⟨#[105, 58, 105, 32, 105, 58, 108, 32, 105, 58, 102, 32, 105, 58, 100]⟩, 16, ⟨#[51, 50, 32, 54, 52, 32, 51, 50, 32, 54, 52]⟩, false⟩,
  ⟨44, ⟨#[105, 51, 50, 46]⟩, ⟨#[108, 111, 97, 100, 56, 95, 115, 32, 108, 111, 97, 100, 56, 95, 117, 32, 108, 111, 97, 100, 49, 54, 95, 115, 32, 108, 111, 97, 100, 49, 54, 95, 117]⟩, ⟨#[105, 58, 105]⟩, 16, ⟨#[56, 32, 56, 32, 49, 54, 32, 49, 54]⟩, false⟩,
  ⟨48, ⟨#[105, 54, 52, 46]⟩, ⟨#[108, 111, 97, 100, 56, 95, 115, 32, 108, 111, 97, 100, 56, 95, 117, 32, 108, 111, 97, 100, 49, 54, 95, 115, 32, 108, 111, 97, 100, 49, 54, 95, 117, 32, 108, 111, 97, 100, 51, 50, 95, 115, 32, 108, 111, 97, 100, 51, 50, 95, 117]⟩, ⟨#[105, 58, 108]⟩, 16, ⟨#[56, 32, 56, 32, 49, 54, 32, 49, 54, 32, 51, 50, 32, 51, 50]⟩, false⟩,
  ⟨54, ⟨#[]⟩, ⟨#[105, 51, 50, 46, 115, 116, 111, 114, 101, 32, 105, 54, 52, 46, 115, 116, 111, 114, 101, 32, 102, 51, 50, 46, 115, 116, 111, 114, 101, 32, 102, 54, 52, 46, 115, 116, 111, 114, 101]⟩, ⟨#[105, 105, 58, 32, 105, 108, 58, 32, 105, 102, 58, 32, 105, 100, 58]⟩, 16, ⟨#[51, 50, 32, 54, 52, 32, 51, 50, 32, 54, 52]⟩, false⟩,
  ⟨58, ⟨#[]⟩, ⟨#[105, 51, 50, 46, 115, 116, 111, 114, 101, 56, 32, 105, 51, 50, 46, 115, 116, 111, 114, 101, 49, 54, 32, 105, 54, 52, 46, 115, 116, 111, 114, 101, 56, 32, 105, 54, 52, 46, 115, 116, 111, 114, 101, 49, 54, 32, 105, 54, 52, 46, 115, 116, 111, 114, 101, 51, 50]⟩, ⟨#[105, 105, 58, 32, 105, 105, 58, 32, 105, 108, 58, 32, 105, 108, 58, 32, 105, 108, 58]⟩, 16, ⟨#[56, 32, 49, 54, 32, 56, 32, 49, 54, 32, 51, 50]⟩, false⟩,
  ⟨63, ⟨#[109, 101, 109, 111, 114, 121, 46]⟩, ⟨#[115, 105, 122, 101, 32, 103, 114, 111, 119]⟩, ⟨#[58, 105, 32, 105, 58, 105]⟩, 14, ⟨#[]⟩, false⟩,
  ⟨208, ⟨#[114, 101, 102, 46]⟩, ⟨#[110, 117, 108, 108]⟩, ⟨#[58]⟩, 25, ⟨#[]⟩, false⟩,
  ⟨209, ⟨#[114, 101, 102, 46]⟩, ⟨#[105, 115, 95, 110, 117, 108, 108]⟩, ⟨#[58]⟩, 0, ⟨#[]⟩, false⟩,
  ⟨210, ⟨#[114, 101, 102, 46]⟩, ⟨#[102, 117, 110, 99]⟩, ⟨#[58]⟩, 4, ⟨#[]⟩, false⟩]
def t_numeric : List Grp := [⟨65, ⟨#[105, 51, 50, 46]⟩, ⟨#[99, 111, 110, 115, 116]⟩, ⟨#[58, 105]⟩, 20, ⟨#[]⟩, true⟩,
  ⟨66, ⟨#[105, 54, 52, 46]⟩, ⟨#[99, 111, 110, 115, 116]⟩, ⟨#[58, 108]⟩, 21, ⟨#[]⟩, true⟩,
  ⟨67, ⟨#[102, 51, 50, 46]⟩, ⟨#[99, 111, 110, 115, 116]⟩, ⟨#[58, 102]⟩, 22, ⟨#[]⟩, true⟩,
  ⟨68, ⟨#[102, 54, 52, 46]⟩, ⟨#[99, 111, 110, 115, 116]⟩, ⟨#[58, 100]⟩, 23, ⟨#[]⟩, true⟩,
  ⟨69, ⟨#[105, 51, 50, 46]⟩, ⟨#[101, 113, 122]⟩, ⟨#[105, 58, 105]⟩, 0, ⟨#[]⟩, true⟩,
  ⟨70, ⟨#[105, 51, 50, 46]⟩, ⟨#[101, 113, 32, 110, 101, 32, 108, 116, 95, 115, 32, 108, 116, 95, 117, 32, 103, 116, 95, 115, 32, 103, 116, 95, 117, 32, 108, 101, 95, 115, 32, 108, 101, 95, 117, 32, 103, 101, 95, 115, 32, 103, 101, 95, 117]⟩, ⟨#[105, 105, 58, 105]⟩, 0, ⟨#[]⟩, true⟩,
  ⟨80, ⟨#[105, 54, 52, 46]⟩, ⟨#[101, 113, 122]⟩, ⟨#[108, 58, 105]⟩, 0, ⟨#[]⟩, true⟩,
  ⟨81, ⟨#[105, 54, 52, 46]⟩, ⟨#[101, 113, 32, 110, 101, 32, 108, 116, 95, 115, 32, 108, 116, 95, 117, 32, 103, 116, 95, 115, 32, 103, 116, 95, 117, 32, 108, 101, 95, 115, 32, 108, 101, 95, 117, 32, 103, 101, 95, 115, 32, 103, 101, 95, 117]⟩, ⟨#[108, 108, 58, 105]⟩, 0, ⟨#[]⟩, true⟩,
  ⟨91, ⟨#[102, 51, 50, 46]⟩, ⟨#[101, 113, 32, 110, 101, 32, 108, 116, 32, 103, 116, 32, 108, 101, 32, 103, 101]⟩, ⟨#[102, 102, 58, 105]⟩, 0, ⟨#[]⟩, true⟩,
  ⟨97, ⟨#[102, 54, 52, 46]⟩, ⟨#[101, 113, 32, 110, 101, 32, 108, 116, 32, 103, 116, 32, 108, 101, 32, 103, 101]⟩, ⟨#[100, 100, 58, 105]⟩, 0, ⟨#[]⟩, true⟩,
  ⟨103, ⟨#[105, 51, 50, 46]⟩, ⟨#[99, 108, 122, 32, 99, 116, 122, 32, 112, 111, 112, 99, 110, 116]⟩, ⟨#[105, 58, 105]⟩, 0, ⟨#[]⟩, true⟩,
  ⟨106, ⟨#[105, 51, 50, 46]⟩, ⟨#[97, 100, 100, 32, 115, 117, 98, 32, 109, 117, 108, 32, 100, 105, 118, 95, 115, 32, 100, 105, 118, 95, 117, 32, 114, 101, 109, 95, 115, 32, 114, 101, 109, 95, 117, 32, 97, 110, 100, 32, 111, 114, 32, 120, 111, 114, 32, 115, 104, 108, 32, 115, 104, 114, 95, 115, 32, 115, 104, 114, 95, 117, 32, 114, 111, 116, 108, 32, 114, 111, 116, 114]⟩, ⟨#[105, 105, 58, 105]⟩, 0, ⟨#[]⟩, true⟩,
  ⟨121, ⟨#[105, 54, 52, 46]⟩, ⟨#[99, 108, 122, 32, 99, 116, 122, 32, 112, 111, 112, 99, 110, 116]⟩, ⟨#[108, 58, 108]⟩, 0, ⟨#[]⟩, true⟩,
  ⟨124, ⟨#[105, 54, 52, 46]⟩, ⟨#[97, 100, 100, 32, 115, 117, 98, 32, 109, 117, 108, 32, 100, 105, 118, 95, 115, 32, 100, 105, 118, 95, 117, 32, 114, 101, 109, 95, 115, 32, 114, 101, 109, 95, 117, 32, 97, 110, 100, 32, 111, 114, 32, 120, 111, 114, 32, 115, 104, 108, 32, 115, 104, 114, 95, 115, 32, 115, 104, 114, 95, 117, 32, 114, 111, 116, 108, 32, 114, 111, 116, 114]⟩, ⟨#[108, 108, 58, 108]⟩, 0, ⟨#[]⟩, true⟩,
  ⟨139, ⟨#[102, 51, 50, 46]⟩, ⟨#[97, 98, 115, 32, 110, 101, 103, 32, 99, 101, 105, 108, 32, 102, 108, 111, 111, 114, 32, 116, 114, 117, 110, 99, 32, 110, 101, 97, 114, 101, 115, 116, 32, 115, 113, 114, 116]⟩, ⟨#[102, 58, 102]⟩, 0, ⟨#[]⟩, true⟩,
  ⟨146, ⟨#[102, 51, 50, 46]⟩, ⟨#[97, 100, 100, 32, 115, 117, 98, 32, 109, 117, 108, 32, 100, 105, 118, 32, 109, 105, 110, 32, 109, 97, 120, 32, 99, 111, 112, 121, 115, 105, 103, 110]⟩, ⟨#[102, 102, 58, 102]⟩, 0, ⟨#[]⟩, true⟩,
  ⟨153, ⟨#[102, 54, 52, 46]⟩, ⟨#[97, 98, 115, 32, 110, 101, 103, 32, 99, 101, 105, 108, 32, 102, 108, 111, 111, 114, 32, 116, 114, 117, 110, 99, 32, 110, 101, 97, 114, 101, 115, 116, 32, 115, 113, 114, 116]⟩, ⟨#[100, 58, 100]⟩, 0, ⟨#[]⟩, true⟩,
  ⟨160, ⟨#[102, 54, 52, 46]⟩, ⟨#[97, 100, 100, 32, 115, 117, 98, 32, 109, 117, 108, 32, 100, 105, 118, 32, 109, 105, 110, 32, 109, 97, 120, 32, 99, 111, 112, 121, 115, 105, 103, 110]⟩, ⟨#[100, 100, 58, 100]⟩, 0, ⟨#[]⟩, true⟩,
  ⟨167, ⟨#[105, 51, 50, 46]⟩, ⟨#[119, 114, 97, 112, 95, 105, 54, 52, 32, 116, 114, 117, 110, 99, 95, 102, 51, 50, 95, 115, 32, 116, 114, 117, 110, 99, 95, 102, 51, 50, 95, 117, 32, 116, 114, 117, 110, 99, 95, 102, 54, 52, 95, 115, 32, 116, 114, 117, 110, 99, 95, 102, 54, 52, 95, 117]⟩, ⟨#[108, 58, 105, 32, 102, 58, 105, 32, 102, 58, 105, 32, 100, 58, 105, 32, 100, 58, 105]⟩, 0, ⟨#[]⟩, true⟩,
  ⟨172, ⟨#[105, 54, 52, 46]⟩, ⟨#[101, 120, 116, 101, 110, 100, 95, 105, 51, 50, 95, 115, 32, 101, 120, 116, 101, 110, 100, 95, 105, 51, 50, 95, 117, 32, 116, 114, 117, 110, 99, 95, 102, 51, 50, 95, 115, 32, 116, 114, 117, 110, 99, 95, 102, 51, 50, 95, 117, 32, 116, 114, 117, 110, 99, 95, 102, 54, 52, 95, 115, 32, 116, 114, 117, 110, 99, 95, 102, 54, 52, 95, 117]⟩, ⟨#[105, 58, 108, 32, 105, 58, 108, 32, 102, 58, 108, 32, 102, 58, 108, 32, 100, 58, 108, 32, 100, 58, 108]⟩, 0, ⟨#[]⟩, true⟩,
  ⟨178, ⟨#[102, 51, 50, 46]⟩, ⟨#[99, 111, 110, 118, 101, 114, 116, 95, 105, 51, 50, 95, 115, 32, 99, 111, 110, 118, 101, 114, 116, 95, 105, 51, 50, 95, 117, 32, 99, 111, 110, 118, 101, 114, 116, 95, 105, 54, 52, 95, 115, 32, 99, 111, 110, 118, 101, 114, 116, 95, 105, 54, 52, 95, 117, 32, 100, 101, 109, 111, 116, 101, 95, 102, 54, 52]⟩, ⟨#[105, 58, 102, 32, 105, 58, 102, 32, 108, 58, 102, 32, 108, 58, 102, 32, 100, 58, 102]⟩, 0, ⟨#[]⟩, true⟩,
  ⟨183, ⟨#[102, 54, 52, 46]⟩, ⟨#[99, 111, 110, 118, 101, 114, 116, 95, 105, 51, 50, 95, 115, 32, 99, 111, 110, 118, 101, 114, 116, 95, 105, 51, 50, 95, 117, 32, 99, 111, 110, 118, 101, 114, 116, 95, 105, 54, 52, 95, 115, 32, 99, 111, 110, 118, 101, 114, 116, 95, 105, 54, 52, 95, 117, 32, 112, 114, 111, 109, 111, 116, 101, 95, 102, 51, 50]⟩, ⟨#[105, 58, 100, 32, 105, 58, 100, 32, 108, 58, 100, 32, 108, 58, 100, 32, 102, 58, 100]⟩, 0, ⟨#[]⟩, true⟩,
  ⟨188, ⟨#[]⟩, ⟨#[105, 51, 50, 46, 114, 101, 105, 110, 116, 101, 114, 112, 114, 101, 116, 95, 102, 51, 50, 32, 105, 54, 52, 46, 114, 101, 105, 110, 116, 101, 114, 112, 114, 101, 116, 95, 102, 54, 52, 32, 102, 51, 50, 46, 114, 101, 105, 110, 116, 101, 114, 112, 114, 101, 116, 95, 105, 51, 50, 32, 102, 54, 52, 46, 114, 101, 105, 110, 116, 101, 114, 112, 114, 101, 116, 95, 105, 54, 52]⟩, ⟨#[102, 58, 105, 32, 100, 58, 108, 32, 105, 58, 102, 32, 108, 58, 100]⟩, 0, ⟨#[]⟩, true⟩,
  ⟨192, ⟨#[]⟩, ⟨#[105, 51, 50, 46, 101, 120, 116, 101, 110, 100, 56, 95, 115, 32, 105, 51, 50, 46, 101, 120, 116, 101, 110, 100, 49, 54, 95, 115, 32, 105, 54, 52, 46, 101, 120, 116, 101, 110, 100, 56, 95, 115, 32, 105, 54, 52, 46, 101, 120, 116, 101, 110, 100, 49, 54, 95, 115, 32, 105, 54, 52, 46, 101, 120, 116, 101, 110, 100, 51, 50, 95, 115]⟩, ⟨#[105, 58, 105, 32, 105, 58, 105, 32, 108, 58, 108, 32, 108, 58, 108, 32, 108, 58, 108]⟩, 0, ⟨#[]⟩, true⟩]
def t_misc : List Grp := [⟨0, ⟨#[105, 51, 50, 46, 116, 114, 117, 110, 99, 95, 115, 97, 116, 95]⟩, ⟨#[102, 51, 50, 95, 115, 32, 102, 51, 50, 95, 117, 32, 102, 54, 52, 95, 115, 32, 102, 54, 52, 95, 117]⟩, ⟨#[102, 58, 105, 32, 102, 58, 105, 32, 100, 58, 105, 32, 100, 58, 105]⟩, 0, ⟨#[]⟩, true⟩,
  ⟨4, ⟨#[105, 54, 52, 46, 116, 114, 117, 110, 99, 95, 115, 97, 116, 95]⟩, ⟨#[102, 51, 50, 95, 115, 32, 102, 51, 50, 95, 117, 32, 102, 54, 52, 95, 115, 32, 102, 54, 52, 95, 117]⟩, ⟨#[102, 58, 108, 32, 102, 58, 108, 32, 100, 58, 108, 32, 100, 58, 108]⟩, 0, ⟨#[]⟩, true⟩,
  ⟨8, ⟨#[]⟩, ⟨#[109, 101, 109, 111, 114, 121, 46, 105, 110, 105, 116]⟩, ⟨#[105, 105, 105, 58]⟩, 13, ⟨#[]⟩, false⟩,
  ⟨9, ⟨#[]⟩, ⟨#[100, 97, 116, 97, 46, 100, 114, 111, 112]⟩, ⟨#[58]⟩, 12, ⟨#[]⟩, false⟩,
  ⟨10, ⟨#[]⟩, ⟨#[109, 101, 109, 111, 114, 121, 46, 99, 111, 112, 121]⟩, ⟨#[105, 105, 105, 58]⟩, 15, ⟨#[]⟩, false⟩,
  ⟨11, ⟨#[]⟩, ⟨#[109, 101, 109, 111, 114, 121, 46, 102, 105, 108, 108]⟩, ⟨#[105, 105, 105, 58]⟩, 14, ⟨#[]⟩, false⟩,
  ⟨12, ⟨#[]⟩, ⟨#[116, 97, 98, 108, 101, 46, 105, 110, 105, 116]⟩, ⟨#[58]⟩, 9, ⟨#[]⟩, false⟩,
  ⟨13, ⟨#[]⟩, ⟨#[101, 108, 101, 109, 46, 100, 114, 111, 112]⟩, ⟨#[58]⟩, 10, ⟨#[]⟩, false⟩,
  ⟨14, ⟨#[]⟩, ⟨#[116, 97, 98, 108, 101, 46, 99, 111, 112, 121]⟩, ⟨#[58]⟩, 11, ⟨#[]⟩, false⟩,
  ⟨15, ⟨#[116, 97, 98, 108, 101, 46]⟩, ⟨#[103, 114, 111, 119, 32, 115, 105, 122, 101, 32, 102, 105, 108, 108]⟩, ⟨#[58]⟩, 8, ⟨#[]⟩, false⟩]
def t_vectors : List Grp := [⟨0, ⟨#[118, 49, 50, 56, 46, 108, 111, 97, 100]⟩, ⟨#[32, 56, 120, 56, 95, 115, 32, 56, 120, 56, 95, 117, 32, 49, 54, 120, 52, 95, 115, 32, 49, 54, 120, 52, 95, 117, 32, 51, 50, 120, 50, 95, 115, 32, 51, 50, 120, 50, 95, 117, 32, 56, 95, 115, 112, 108, 97, 116, 32, 49, 54, 95, 115, 112, 108, 97, 116, 32, 51, 50, 95, 115, 112, 108, 97, 116, 32, 54, 52, 95, 115, 112, 108, 97, 116]⟩, ⟨#[105, 58, 118]⟩, 16, ⟨#[49, 50, 56, 32, 54, 52, 32, 54, 52, 32, 54, 52, 32, 54, 52, 32, 54, 52, 32, 54, 52, 32, 56, 32, 49, 54, 32, 51, 50, 32, 54, 52]⟩, false⟩,
  ⟨11, ⟨#[118, 49, 50, 56, 46]⟩, ⟨#[115, 116, 111, 114, 101]⟩, ⟨#[105, 118, 58]⟩, 16, ⟨#[49, 50, 56]⟩, false⟩,
  ⟨12, ⟨#[118, 49, 50, 56, 46]⟩, ⟨#[99, 111, 110, 115, 116]⟩, ⟨#[58, 118]⟩, 24, ⟨#[]⟩, true⟩,
  ⟨13, ⟨#[105, 56, 120, 49, 54, 46]⟩, ⟨#[115, 104, 117, 102, 102, 108, 101]⟩, ⟨#[118, 118, 58, 118]⟩, 19, ⟨#[]⟩, true⟩,
  ⟨14, ⟨#[105, 56, 120, 49, 54, 46]⟩, ⟨#[115, 119, 105, 122, 122, 108, 101]⟩, ⟨#[118, 118, 58, 118]⟩, 0, ⟨#[]⟩, true⟩,
  ⟨15, ⟨#[]⟩, ⟨#[105, 56, 120, 49, 54, 46, 115, 112, 108, 97, 116, 32, 105, 49, 54, 120, 56, 46, 115, 112, 108, 97, 116, 32, 105, 51, 50, 120, 52, 46, 115, 112, 108, 97, 116, 32, 105, 54, 52, 120, 50, 46, 115, 112, 108, 97, 116, 32, 102, 51, 50, 120, 52, 46, 115, 112, 108, 97, 116, 32, 102, 54, 52, 120, 50, 46, 115, 112, 108, 97, 116]⟩, ⟨#[105, 58, 118, 32, 105, 58, 118, 32, 105, 58, 118, 32, 108, 58, 118, 32, 102, 58, 118, 32, 100, 58, 118]⟩, 0, ⟨#[]⟩, true⟩,
  ⟨21, ⟨#[]⟩, ⟨#[105, 56, 120, 49, 54, 46, 101, 120, 116, 114, 97, 99, 116, 95, 108, 97, 110, 101, 95, 115, 32, 105, 56, 120, 49, 54, 46, 101, 120, 116, 114, 97, 99, 116, 95, 108, 97, 110, 101, 95, 117, 32, 105, 56, 120, 49, 54, 46, 114, 101, 112, 108, 97, 99, 101, 95, 108, 97, 110, 101, 32, 105, 49, 54, 120, 56, 46, 101, 120, 116, 114, 97, 99, 116, 95, 108, 97, 110, 101, 95, 115, 32, 105, 49, 54, 120, 56, 46, 101, 120, 116, 114, 97, 99, 116, 95, 108, 97, 110, 101, 95, 117, 32, 105, 49, 54, 120, 56, 46, 114, 101, 112, 108, 97, 99, 101, 95, 108, 97, 110, 101, 32, 105, 51, 50, 120, 52, 46, 101, 120, 116, 114, 97, 99, 116, 95, 108, 97, 110, 101, 32, 105, 51, 50, 120, 52, 46, 114, 101, 112, 108, 97, 99, 101, 95, 108, 97, 110, 101, 32, 105, 54, 52, 120, 50, 46, 101, 120, 116, 114, 97, 99, 116, 95, 108, 97, 110, 101, 32, 105, 54, 52, 120, 50, 46, 114, 101, 112, 108, 97, 99, 101, 95, 108, 97, 110, 101, 32, 102, 51, 50, 120, 52, 46, 101, 120, 116, 114, 97, 99, 116, 95, 108, 97, 110, 101, 32, 102, 51, 50, 120, 52, 46, 114, 101, 112, 108, 97, 99, 101, 95, 108, 97, 110, 101, 32, 102, 54, 52, 120, 50, 46, 101, 120, 116, 114, 97, 99, 116, 95, 108, 97, 110, 101, 32, 102, 54, 52, 120, 50, 46, 114, 101, 112, 108, 97, 99, 101, 95, 108, 97, 110, 101]⟩, ⟨#[118, 58, 105, 32, 118, 58, 105, 32, 118, 105, 58, 118, 32, 118, 58, 105, 32, 118, 58, 105, 32, 118, 105, 58, 118, 32, 118, 58, 105, 32, 118, 105, 58, 118, 32, 118, 58, 108, 32, 118, 108, 58, 118, 32, 118, 58, 102, 32, 118, 102, 58, 118, 32, 118, 58, 100, 32, 118, 100, 58, 118]⟩, 18, ⟨#[]⟩, true⟩,
  ⟨35, ⟨#[105, 56, 120, 49, 54, 46]⟩, ⟨#[101, 113, 32, 110, 101, 32, 108, 116, 95, 115, 32, 108, 116, 95, 117, 32, 103, 116, 95, 115, 32, 103, 116, 95, 117, 32, 108, 101, 95, 115, 32, 108, 101, 95, 117, 32, 103, 101, 95, 115, 32, 103, 101, 95, 117]⟩, ⟨#[118, 118, 58, 118]⟩, 0, ⟨#[]⟩, true⟩,
  ⟨45, ⟨#[105, 49, 54, 120, 56, 46]⟩, ⟨#[101, 113, 32, 110, 101, 32, 108, 116, 95, 115, 32, 108, 116, 95, 117, 32, 103, 116, 95, 115, 32, 103, 116, 95, 117, 32, 108, 101, 95, 115, 32, 108, 101, 95, 117, 32, 103, 101, 95, 115, 32, 103, 101, 95, 117]⟩, ⟨#[118, 118, 58, 118]⟩, 0, ⟨#[]⟩, true⟩,
  ⟨55, ⟨#[105, 51, 50, 120, 52, 46]⟩, ⟨#[101, 113, 32, 110, 101, 32, 108, 116, 95, 115, 32, 108, 116, 95, 117, 32, 103, 116, 95, 115, 32, 103, 116, 95, 117, 32, 108, 101, 95, 115, 32, 108, 101, 95, 117, 32, 103, 101, 95, 115, 32, 103, 101, 95, 117]⟩, ⟨#[118, 118, 58, 118]⟩, 0, ⟨#[]⟩, true⟩,
  ⟨65, ⟨#[102, 51, 50, 120, 52, 46]⟩, ⟨#[101, 113, 32, 110, 101, 32, 108, 116, 32, 103, 116, 32, 108, 101, 32, 103, 101]⟩, ⟨#[118, 118, 58, 118]⟩, 0, ⟨#[]⟩, true⟩,
  ⟨71, ⟨#[102, 54, 52, 120, 50, 46]⟩, ⟨#[101, 113, 32, 110, 101, 32, 108, 116, 32, 103, 116, 32, 108, 101, 32, 103, 101]⟩, ⟨#[118, 118, 58, 118]⟩, 0, ⟨#[]⟩, true⟩,
  ⟨77, ⟨#[118, 49, 50, 56, 46]⟩, ⟨#[110, 111, 116, 32, 97, 110, 100, 32, 97, 110, 100, 110, 111, 116, 32, 111, 114, 32, 120, 111, 114, 32, 98, 105, 116, 115, 101, 108, 101, 99, 116, 32, 97, 110, 121, 95, 116, 114, 117, 101]⟩, ⟨#[118, 58, 118, 32, 118, 118, 58, 118, 32, 118, 118, 58, 118, 32, 118, 118, 58, 118, 32, 118, 118, 58, 118, 32, 118, 118, 118, 58, 118, 32, 118, 58, 105]⟩, 0, ⟨#[]⟩, true⟩,
  ⟨84, ⟨#[118, 49, 50, 56, 46]⟩, ⟨#[108, 111, 97, 100, 56, 95, 108, 97, 110, 101, 32, 108, 111, 97, 100, 49, 54, 95, 108, 97, 110, 101, 32, 108, 111, 97, 100, 51, 50, 95, 108, 97, 110, 101, 32, 108, 111, 97, 100, 54, 52, 95, 108, 97, 110, 101]⟩, ⟨#[105, 118, 58, 118]⟩, 17, ⟨#[56, 32, 49, 54, 32, 51, 50, 32, 54, 52]⟩, false⟩,
  ⟨88, ⟨#[118, 49, 50, 56, 46]⟩, ⟨#[115, 116, 111, 114, 101, 56, 95, 108, 97, 110, 101, 32, 115, 116, 111, 114, 101, 49, 54, 95, 108, 97, 110, 101, 32, 115, 116, 111, 114, 101, 51, 50, 95, 108, 97, 110, 101, 32, 115, 116, 111, 114, 101, 54, 52, 95, 108, 97, 110, 101]⟩, ⟨#[105, 118, 58]⟩, 17, ⟨#[56, 32, 49, 54, 32, 51, 50, 32, 54, 52]⟩, false⟩,
  ⟨92, ⟨#[118, 49, 50, 56, 46]⟩, ⟨#[108, 111, 97, 100, 51, 50, 95, 122, 101, 114, 111, 32, 108, 111, 97, 100, 54, 52, 95, 122, 101, 114, 111]⟩, ⟨#[105, 58, 118]⟩, 16, ⟨#[51, 50, 32, 54, 52]⟩, false⟩,
  ⟨94, ⟨#[]⟩, ⟨#[102, 51, 50, 120, 52, 46, 100, 101, 109, 111, 116, 101, 95, 102, 54, 52, 120, 50, 95, 122, 101, 114, 111, 32, 102, 54, 52, 120, 50, 46, 112, 114, 111, 109, 111, 116, 101, 95, 108, 111, 119, 95, 102, 51, 50, 120, 52]⟩, ⟨#[118, 58, 118]⟩, 0, ⟨#[]⟩, true⟩]
def t_odd : List Grp := [⟨98, ⟨#[105, 56, 120, 49, 54, 46]⟩, ⟨#[112, 111, 112, 99, 110, 116]⟩, ⟨#[118, 58, 118]⟩, 0, ⟨#[]⟩, true⟩,
  ⟨103, ⟨#[102, 51, 50, 120, 52, 46]⟩, ⟨#[99, 101, 105, 108, 32, 102, 108, 111, 111, 114, 32, 116, 114, 117, 110, 99, 32, 110, 101, 97, 114, 101, 115, 116]⟩, ⟨#[118, 58, 118]⟩, 0, ⟨#[]⟩, true⟩,
  ⟨116, ⟨#[102, 54, 52, 120, 50, 46]⟩, ⟨#[99, 101, 105, 108, 32, 102, 108, 111, 111, 114]⟩, ⟨#[118, 58, 118]⟩, 0, ⟨#[]⟩, true⟩,
  ⟨122, ⟨#[102, 54, 52, 120, 50, 46]⟩, ⟨#[116, 114, 117, 110, 99]⟩, ⟨#[118, 58, 118]⟩, 0, ⟨#[]⟩, true⟩,
  ⟨124, ⟨#[105, 49, 54, 120, 56, 46, 101, 120, 116, 97, 100, 100, 95, 112, 97, 105, 114, 119, 105, 115, 101, 95, 105, 56, 120, 49, 54, 95]⟩, ⟨#[115, 32, 117]⟩, ⟨#[118, 58, 118]⟩, 0, ⟨#[]⟩, true⟩,
  ⟨126, ⟨#[105, 51, 50, 120, 52, 46, 101, 120, 116, 97, 100, 100, 95, 112, 97, 105, 114, 119, 105, 115, 101, 95, 105, 49, 54, 120, 56, 95]⟩, ⟨#[115, 32, 117]⟩, ⟨#[118, 58, 118]⟩, 0, ⟨#[]⟩, true⟩,
  ⟨130, ⟨#[105, 49, 54, 120, 56, 46]⟩, ⟨#[113, 49, 53, 109, 117, 108, 114, 95, 115, 97, 116, 95, 115]⟩, ⟨#[118, 118, 58, 118]⟩, 0, ⟨#[]⟩, true⟩,
  ⟨148, ⟨#[102, 54, 52, 120, 50, 46]⟩, ⟨#[110, 101, 97, 114, 101, 115, 116]⟩, ⟨#[118, 58, 118]⟩, 0, ⟨#[]⟩, true⟩,
  ⟨186, ⟨#[105, 51, 50, 120, 52, 46]⟩, ⟨#[100, 111, 116, 95, 105, 49, 54, 120, 56, 95, 115]⟩, ⟨#[118, 118, 58, 118]⟩, 0, ⟨#[]⟩, true⟩,
  ⟨214, ⟨#[105, 54, 52, 120, 50, 46]⟩, ⟨#[101, 113, 32, 110, 101, 32, 108, 116, 95, 115, 32, 103, 116, 95, 115, 32, 108, 101, 95, 115, 32, 103, 101, 95, 115]⟩, ⟨#[118, 118, 58, 118]⟩, 0, ⟨#[]⟩, true⟩,
  ⟨224, ⟨#[102, 51, 50, 120, 52, 46]⟩, ⟨#[97, 98, 115, 32, 110, 101, 103]⟩, ⟨#[118, 58, 118]⟩, 0, ⟨#[]⟩, true⟩,
  ⟨227, ⟨#[102, 51, 50, 120, 52, 46]⟩, ⟨#[115, 113, 114, 116]⟩, ⟨#[118, 58, 118]⟩, 0, ⟨#[]⟩, true⟩,
  ⟨228, ⟨#[102, 51, 50, 120, 52, 46]⟩, ⟨#[97, 100, 100, 32, 115, 117, 98, 32, 109, 117, 108, 32, 100, 105, 118, 32, 109, 105, 110, 32, 109, 97, 120, 32, 112, 109, 105, 110, 32, 112, 109, 97, 120]⟩, ⟨#[118, 118, 58, 118]⟩, 0, ⟨#[]⟩, true⟩,
  ⟨236, ⟨#[102, 54, 52, 120, 50, 46]⟩, ⟨#[97, 98, 115, 32, 110, 101, 103]⟩, ⟨#[118, 58, 118]⟩, 0, ⟨#[]⟩, true⟩,
  ⟨239, ⟨#[102, 54, 52, 120, 50, 46]⟩, ⟨#[115, 113, 114, 116]⟩, ⟨#[118, 58, 118]⟩, 0, ⟨#[]⟩, true⟩,
  ⟨240, ⟨#[102, 54, 52, 120, 50, 46]⟩, ⟨#[97, 100, 100, 32, 115, 117, 98, 32, 109, 117, 108, 32, 100, 105, 118, 32, 109, 105, 110, 32, 109, 97, 120, 32, 112, 109, 105, 110, 32, 112, 109, 97, 120]⟩, ⟨#[118, 118, 58, 118]⟩, 0, ⟨#[]⟩, true⟩,
  ⟨248, ⟨#[105, 51, 50, 120, 52, 46, 116, 114, 117, 110, 99, 95, 115, 97, 116, 95, 102, 51, 50, 120, 52, 95]⟩, ⟨#[115, 32, 117]⟩, ⟨#[118, 58, 118]⟩, 0, ⟨#[]⟩, true⟩,
  ⟨250, ⟨#[102, 51, 50, 120, 52, 46, 99, 111, 110, 118, 101, 114, 116, 95, 105, 51, 50, 120, 52, 95]⟩, ⟨#[115, 32, 117]⟩, ⟨#[118, 58, 118]⟩, 0, ⟨#[]⟩, true⟩,
  ⟨252, ⟨#[105, 51, 50, 120, 52, 46, 116, 114, 117, 110, 99, 95, 115, 97, 116, 95, 102, 54, 52, 120, 50, 95]⟩, ⟨#[115, 95, 122, 101, 114, 111, 32, 117, 95, 122, 101, 114, 111]⟩, ⟨#[118, 58, 118]⟩, 0, ⟨#[]⟩, true⟩,
  ⟨254, ⟨#[102, 54, 52, 120, 50, 46, 99, 111, 110, 118, 101, 114, 116, 95, 108, 111, 119, 95, 105, 51, 50, 120, 52, 95]⟩, ⟨#[115, 32, 117]⟩, ⟨#[118, 58, 118]⟩, 0, ⟨#[]⟩, true⟩]
theorem ginfo : Tryd.prog.info? 187 = some Tryd.t187 := by kernel_rfl
theorem gzero : (Tryd.t187).zero = some (.agg #[.int .i64 0, .string ⟨#[]⟩, .string ⟨#[]⟩, .string ⟨#[]⟩, .int .u8 0, .string ⟨#[]⟩, .bool false]) := by kernel_rfl
set_option maxRecDepth 100000 in
set_option maxHeartbeats 4000000 in
theorem control_any (w : World) : Calls Tryd.prog 105 #[] w fun e w' => e = .returned (.slice (some ⟨w.heap.size, 0, none⟩) 21 21) ∧ w' = w.alloc (.cells (gcells t_control) 187) := by
  go_enter Tryd.func105, Tryd.ntmps105
  go_upto_region 1 with fail
  refine wp_region_list ?_
  rw [← List.take_append_drop 21 (Array.toList _)]
  refine wpList_builds _ (runBuilds_get (by kernel_rfl)) ?_
  refine wpList_buildSlice rfl 178 187 21 _ rfl (gcells t_control) _ _ Tryd.underlying178 ginfo gzero (by decide) (by decide) (by kernel_rfl) ?_
  generalize hA : (Option.getD _ _ : Act) = A1
  have hs : A1.tmps.size = 23 := by rw [← hA]; kernel_rfl
  have hd : A1.defers = [] := by rw [← hA]; kernel_rfl
  clear hA
  obtain ⟨T, df⟩ := A1
  simp only at hs hd
  subst hd
  obtain ⟨l⟩ := T
  match l, hs with
  | a0 :: a1 :: a2 :: a3 :: a4 :: a5 :: a6 :: a7 :: a8 :: a9 :: a10 :: a11 :: a12 :: a13 :: a14 :: a15 :: a16 :: a17 :: a18 :: a19 :: a20 :: a21 :: a22 :: [], _ =>
    simp only [Act.put, List.setIfInBounds_toArray, List.set_cons_succ, List.set_cons_zero]
    go_wp2_with fail
    go_ret
    exact ⟨rfl, rfl⟩
set_option maxRecDepth 100000 in
set_option maxHeartbeats 4000000 in
theorem numeric_any (w : World) : Calls Tryd.prog 104 #[] w fun e w' => e = .returned (.slice (some ⟨w.heap.size, 0, none⟩) 24 24) ∧ w' = w.alloc (.cells (gcells t_numeric) 187) := by
  go_enter Tryd.func104, Tryd.ntmps104
  go_upto_region 2 with fail
  refine wp_region_list ?_
  rw [← List.take_append_drop 44 (Array.toList _)]
  refine wpList_builds _ (runBuilds_get (by kernel_rfl)) ?_
  refine wpList_buildSlice rfl 178 187 24 _ rfl (gcells t_numeric) _ _ Tryd.underlying178 ginfo gzero (by decide) (by decide) (by kernel_rfl) ?_
  generalize hA : (Option.getD _ _ : Act) = A1
  have hs : A1.tmps.size = 47 := by rw [← hA]; kernel_rfl
  have hd : A1.defers = [] := by rw [← hA]; kernel_rfl
  clear hA
  obtain ⟨T, df⟩ := A1
  simp only at hs hd
  subst hd
  obtain ⟨l⟩ := T
  match l, hs with
  | a0 :: a1 :: a2 :: a3 :: a4 :: a5 :: a6 :: a7 :: a8 :: a9 :: a10 :: a11 :: a12 :: a13 :: a14 :: a15 :: a16 :: a17 :: a18 :: a19 :: a20 :: a21 :: a22 :: a23 :: a24 :: a25 :: a26 :: a27 :: a28 :: a29 :: a30 :: a31 :: a32 :: a33 :: a34 :: a35 :: a36 :: a37 :: a38 :: a39 :: a40 :: a41 :: a42 :: a43 :: a44 :: a45 :: a46 :: [], _ =>
    simp only [Act.put, List.setIfInBounds_toArray, List.set_cons_succ, List.set_cons_zero]
    go_wp2_with fail
    go_ret
    exact ⟨rfl, rfl⟩
set_option maxRecDepth 100000 in
set_option maxHeartbeats 4000000 in
theorem misc_any (w : World) : Calls Tryd.prog 103 #[] w fun e w' => e = .returned (.slice (some ⟨w.heap.size, 0, none⟩) 10 10) ∧ w' = w.alloc (.cells (gcells t_misc) 187) := by
  go_enter Tryd.func103, Tryd.ntmps103
  go_upto_region 1 with fail
  refine wp_region_list ?_
  rw [← List.take_append_drop 10 (Array.toList _)]
  refine wpList_builds _ (runBuilds_get (by kernel_rfl)) ?_
  refine wpList_buildSlice rfl 178 187 10 _ rfl (gcells t_misc) _ _ Tryd.underlying178 ginfo gzero (by decide) (by decide) (by kernel_rfl) ?_
  generalize hA : (Option.getD _ _ : Act) = A1
  have hs : A1.tmps.size = 12 := by rw [← hA]; kernel_rfl
  have hd : A1.defers = [] := by rw [← hA]; kernel_rfl
  clear hA
  obtain ⟨T, df⟩ := A1
  simp only at hs hd
  subst hd
  obtain ⟨l⟩ := T
  match l, hs with
  | a0 :: a1 :: a2 :: a3 :: a4 :: a5 :: a6 :: a7 :: a8 :: a9 :: a10 :: a11 :: [], _ =>
    simp only [Act.put, List.setIfInBounds_toArray, List.set_cons_succ, List.set_cons_zero]
    go_wp2_with fail
    go_ret
    exact ⟨rfl, rfl⟩
set_option maxRecDepth 100000 in
set_option maxHeartbeats 4000000 in
theorem vectors_any (w : World) : Calls Tryd.prog 109 #[] w fun e w' => e = .returned (.slice (some ⟨w.heap.size, 0, none⟩) 17 17) ∧ w' = w.alloc (.cells (gcells t_vectors) 187) := by
  go_enter Tryd.func109, Tryd.ntmps109
  go_upto_region 2 with fail
  refine wp_region_list ?_
  rw [← List.take_append_drop 26 (Array.toList _)]
  refine wpList_builds _ (runBuilds_get (by kernel_rfl)) ?_
  refine wpList_buildSlice rfl 178 187 17 _ rfl (gcells t_vectors) _ _ Tryd.underlying178 ginfo gzero (by decide) (by decide) (by kernel_rfl) ?_
  generalize hA : (Option.getD _ _ : Act) = A1
  have hs : A1.tmps.size = 29 := by rw [← hA]; kernel_rfl
  have hd : A1.defers = [] := by rw [← hA]; kernel_rfl
  clear hA
  obtain ⟨T, df⟩ := A1
  simp only at hs hd
  subst hd
  obtain ⟨l⟩ := T
  match l, hs with
  | a0 :: a1 :: a2 :: a3 :: a4 :: a5 :: a6 :: a7 :: a8 :: a9 :: a10 :: a11 :: a12 :: a13 :: a14 :: a15 :: a16 :: a17 :: a18 :: a19 :: a20 :: a21 :: a22 :: a23 :: a24 :: a25 :: a26 :: a27 :: a28 :: [], _ =>
    simp only [Act.put, List.setIfInBounds_toArray, List.set_cons_succ, List.set_cons_zero]
    go_wp2_with fail
    go_ret
    exact ⟨rfl, rfl⟩
set_option maxRecDepth 100000 in
set_option maxHeartbeats 4000000 in
theorem odd_any (w : World) : Calls Tryd.prog 110 #[] w fun e w' => e = .returned (.slice (some ⟨w.heap.size, 0, none⟩) 20 20) ∧ w' = w.alloc (.cells (gcells t_odd) 187) := by
  go_enter Tryd.func110, Tryd.ntmps110
  go_upto_region 2 with fail
  refine wp_region_list ?_
  rw [← List.take_append_drop 40 (Array.toList _)]
  refine wpList_builds _ (runBuilds_get (by kernel_rfl)) ?_
  refine wpList_buildSlice rfl 178 187 20 _ rfl (gcells t_odd) _ _ Tryd.underlying178 ginfo gzero (by decide) (by decide) (by kernel_rfl) ?_
  generalize hA : (Option.getD _ _ : Act) = A1
  have hs : A1.tmps.size = 43 := by rw [← hA]; kernel_rfl
  have hd : A1.defers = [] := by rw [← hA]; kernel_rfl
  clear hA
  obtain ⟨T, df⟩ := A1
  simp only at hs hd
  subst hd
  obtain ⟨l⟩ := T
  match l, hs with
  | a0 :: a1 :: a2 :: a3 :: a4 :: a5 :: a6 :: a7 :: a8 :: a9 :: a10 :: a11 :: a12 :: a13 :: a14 :: a15 :: a16 :: a17 :: a18 :: a19 :: a20 :: a21 :: a22 :: a23 :: a24 :: a25 :: a26 :: a27 :: a28 :: a29 :: a30 :: a31 :: a32 :: a33 :: a34 :: a35 :: a36 :: a37 :: a38 :: a39 :: a40 :: a41 :: a42 :: [], _ =>
    simp only [Act.put, List.setIfInBounds_toArray, List.set_cons_succ, List.set_cons_zero]
    go_wp2_with fail
    go_ret
    exact ⟨rfl, rfl⟩
end Go.Proofs.YtfmblalbcodpmaaDoor
namespace Go.Proofs.YtfmblalbcodpmaaDoor
open Go.RowKit
theorem count_one (s : ByteArray) (c : UInt8) (w : World) : Calls Tryd.prog 113 #[.string s, .string ⟨#[c]⟩] w fun e w' => e = .returned (.int .i64 (Lib.countB s ⟨#[c]⟩)) ∧ w' = w := by
  refine (Any.strings_Count_one lays138 s c w).mono fun e w' ⟨he, hw⟩ => ⟨?_, hw⟩
  rw [he]
  show _ = Ending.returned (Value.int .i64 ((Lib.count s.data.toList [c] : Nat) : Int))
  rw [Lib.count_one]
  rfl
def piecesP (s : ByteArray) (c : UInt8) : List ByteArray := Lib.splitB ⟨#[c]⟩ 0 (Lib.countB s ⟨#[c]⟩) s
theorem pieces_len (s : ByteArray) (c : UInt8) : (piecesP s c).length = Lib.countB s ⟨#[c]⟩ + 1 := Lib.splitB_all ⟨#[c]⟩ (Nat.le_refl 1) 0 _ s rfl
theorem gensplit_one (s : ByteArray) (c : UInt8) (w : World) (hs : s.size < 4294967281) :
    Calls Tryd.prog 120 #[.string s, .string ⟨#[c]⟩, .int .i64 0, .int .i64 (-1)] w fun e w' => e = .returned (.slice (some ⟨w.heap.size, 0, none⟩) (piecesP s c).length (piecesP s c).length) ∧ w' = w.alloc (.cells ((piecesP s c).map Value.string).toArray 9) := by
  have hle := Lib.countB_le ⟨#[c]⟩ (Nat.le_refl 1) s.size s (Nat.le_refl _)
  have h := Any.strings_genSplit_core { lays146 with } libhi9 s ⟨#[c]⟩ 0 (-1) (Lib.countB s ⟨#[c]⟩ + 1) w hs (Nat.le_refl 1) (Nat.zero_le _)
    (fun x cs _ => (Any.strings_Index_one { lays146 with } x c _).mono fun e w' ⟨he, hw⟩ => ⟨by rw [he, ← Lib.index_one], hw⟩) (count_one s c w) (by decide) (by decide) (by rw [if_pos (by decide)]; omega)
  refine h.mono fun e w' ⟨he, hw⟩ => ⟨?_, ?_⟩
  · rw [he, Nat.add_sub_cancel, pieces_len]
    have := pieces_len s c
    unfold piecesP at this
    rw [this]
  · have e2 : Lib.cellsOf (piecesP s c) (Lib.countB s ⟨#[c]⟩ + 1) = ((piecesP s c).map Value.string).toArray := by rw [← pieces_len s c]; exact Lib.cellsOf_full _
    rw [hw, ← e2]
    rfl
set_option maxRecDepth 100000 in
set_option maxHeartbeats 1600000 in
theorem split_one (s : ByteArray) (c : UInt8) (w : World) (hs : s.size < 4294967281) :
    Calls Tryd.prog 114 #[.string s, .string ⟨#[c]⟩] w fun e w' => e = .returned (.slice (some ⟨w.heap.size, 0, none⟩) (piecesP s c).length (piecesP s c).length) ∧ w' = w.alloc (.cells ((piecesP s c).map Value.string).toArray 9) := by
  have HG := Lib.hid (gensplit_one s c w hs)
  go_enter Tryd.func114, Tryd.ntmps114
  go_wp2_with fail
  refine HG.out.mono ?_
  rintro e w' ⟨rfl, rfl⟩
  go_wp2_with fail
  go_ret
  exact ⟨rfl, rfl⟩
end Go.Proofs.YtfmblalbcodpmaaDoor
namespace Go.Proofs.YtfmblalbcodpmaaDoor
open Go.RowKit
def cutL (s : ByteArray) (c : UInt8) : ByteArray := ⟨(Lib.cut s.data.toList [c]).1.toArray⟩
def cutR (s : ByteArray) (c : UInt8) : ByteArray := ⟨(Lib.cut s.data.toList [c]).2.1.toArray⟩
def cutF (s : ByteArray) (c : UInt8) : Bool := (Lib.cut s.data.toList [c]).2.2
theorem sindex_one (s : ByteArray) (c : UInt8) (w : World) : Calls Tryd.prog 115 #[.string s, .string ⟨#[c]⟩] w fun e w' => e = .returned (.int .i64 (Lib.indexB s ⟨#[c]⟩)) ∧ w' = w :=
  (Any.stringslite_Index_one { lays145 with } s c w).mono fun e w' ⟨he, hw⟩ => ⟨by rw [he, ← Lib.index_one], hw⟩
set_option maxRecDepth 100000 in
set_option maxHeartbeats 1600000 in
theorem scut_one (s : ByteArray) (c : UInt8) (w : World) (hs : s.size < 4294967281) :
    Calls Tryd.prog 106 #[.string s, .string ⟨#[c]⟩] w fun e w' => e = .returned (.tuple #[.string (cutL s c), .string (cutR s c), .bool (cutF s c)]) ∧ Kept S0 w w' := by
  have HI := Lib.hid (sindex_one s c w)
  rcases Lib.indexB_cases s ⟨#[c]⟩ with hix | ⟨i, hix, hroom⟩
  · obtain ⟨e1, e2, e3⟩ := Lib.cutB_miss s ⟨#[c]⟩ hix
    have f1 : cutL s c = s := e1
    have f2 : cutR s c = ByteArray.empty := e2
    have f3 : cutF s c = false := e3
    rw [f1, f2, f3]
    rw [hix] at HI
    clear e1 e2 e3 f1 f2 f3 hix
    go_enter Tryd.func106, Tryd.ntmps106
    go_wp2_with fail
    refine HI.out.mono ?_
    rintro e w' ⟨rfl, rfl⟩
    go_wp2_with fail
    go_ret3
    exact ⟨rfl, Kept.refl S0 _⟩
  · obtain ⟨e1, e2, e3⟩ := Lib.cutB_hit s ⟨#[c]⟩ i hix
    have f1 : cutL s c = s.extract 0 i := e1
    have f2 : cutR s c = s.extract (i + 1) s.size := e2
    have f3 : cutF s c = true := e3
    rw [f1, f2, f3]
    rw [hix] at HI
    clear e1 e2 e3 f1 f2 f3 hix
    have hroom' : i + 1 ≤ s.size := hroom
    clear hroom
    have c1 : (0 : Int) ≤ ↑i := by omega
    have c2 : (↑i : Int) ≤ ↑s.size := by omega
    have c3 : (0 : Int) ≤ ↑i + 1 := by omega
    have c4 : (↑i + 1 : Int) ≤ ↑s.size := by omega
    have c5 : ((i : Int) + 1).toNat = i + 1 := by omega
    have c6 : IntKind.i64.wrap ((i : Int) + 1) = (i : Int) + 1 := IntWalk.i64_in _ (by omega)
    go_enter Tryd.func106, Tryd.ntmps106
    go_wp2_with fail
    refine HI.out.mono ?_
    rintro e w' ⟨rfl, rfl⟩
    go_wp2_with fail
    go_quiet (fail)
    go_wp2_with fail
    go_ret3
    exact ⟨rfl, (Kept.refl S0 _).drewN _⟩
set_option maxRecDepth 100000 in
set_option maxHeartbeats 1600000 in
theorem cut_one (s : ByteArray) (c : UInt8) (w : World) (hs : s.size < 4294967281) :
    Calls Tryd.prog 86 #[.string s, .string ⟨#[c]⟩] w fun e w' => e = .returned (.tuple #[.string (cutL s c), .string (cutR s c), .bool (cutF s c)]) ∧ Kept S0 w w' := by
  have HI := Lib.hid (scut_one s c w hs)
  go_enter Tryd.func86, Tryd.ntmps86
  go_wp2_with fail
  refine HI.out.mono ?_
  rintro e w' ⟨rfl, hk⟩
  go_wp2_with fail
  go_ret3
  exact ⟨rfl, hk⟩
end Go.Proofs.YtfmblalbcodpmaaDoor
namespace Go.Proofs.YtfmblalbcodpmaaDoor
open Go
section
variable {P : Program} {ops : Array Oper} {Q : Exit → Act → World → Prop} {md : Region.Mode} {S : World → Prop} {late : List Nat}
/-- No late operation has come up yet. -/
def early (late : List Nat) (listed : Array Bool) : Bool := late.all fun t => !listed.getD t true
theorem early_set {i : Nat} {listed : Array Bool} (hi : i ∉ late) : early late (listed.setIfInBounds i true) = early late listed := by
  unfold early
  apply Bool.eq_iff_iff.2
  simp only [List.all_eq_true]
  constructor
  · intro h t ht
    have := h t ht
    rwa [getD_set_ne true (show i ≠ t from fun e => hi (by rw [e]; exact ht))] at this
  · intro h t ht
    rw [getD_set_ne true (show i ≠ t from fun e => hi (by rw [e]; exact ht))]
    exact h t ht
/-- Whatever order is picked, and S holds till the first late operation. -/
def wpAnyR (P : Program) (md : Region.Mode) (ops : Array Oper) (Q : Exit → Act → World → Prop) (S : World → Prop) (late : List Nat) : Nat → Array Bool → Act → World → Prop
  | 0, listed, a, w => Region.ready md ops listed = [] ∧ Q .normal a w
  | fuel + 1, listed, a, w => (Region.ready md ops listed = [] → Q .normal a w) ∧ ∀ i ∈ Region.ready md ops listed, wpOp P ops Q i (fun a' w' => (early late (listed.setIfInBounds i true) = true → S w') ∧ wpAnyR P md ops Q S late fuel (listed.setIfInBounds i true) a' w') a w
theorem wpAny_of_R : ∀ (fuel : Nat) (listed : Array Bool) (a : Act) (w : World), wpAnyR P md ops Q S late fuel listed a w → wpAny P md ops Q fuel listed a w
  | 0, _, _, _, h => h
  | fuel + 1, _, _, _, h => ⟨h.1, fun i hi => wpOp_mono (fun a' w' h' => wpAny_of_R fuel _ a' w' h'.2) (h.2 i hi)⟩
theorem wpAnyR_first {i : Nat} {oi : Oper} {v : Value} (hi : ops[i]? = some oi) (hil : i ∉ late) (hsel : ∀ (j : Nat) (o : Oper) cs b, ops[j]? = some o → o.op ≠ .select cs b)
    (hQ : ∀ c a w, Q (.panic c) (a.put oi.dst v) w → Q (.panic c) a w) :
    ∀ (fuel : Nat) (listed : Array Bool) (a : Act) (w : World), early late listed = true →
      (∀ t ∈ late, listed.getD t true = false → Region.waitsFor md ops t i = true) →
      (∀ j oj, ops[j]? = some oj → j ≠ i → listed.getD j true = false → (∀ e ∈ oj.after, Region.binds md e = true → e.on ≠ i) → oi.apart ops oj = true) →
      i ∈ Region.ready md ops listed → YieldsIf P ops S oi v a → S w →
      wpAnyR P md ops Q S late fuel (listed.setIfInBounds i true) (a.put oi.dst v) w → wpAnyR P md ops Q S late (fuel + 1) listed a w := by
  intro fuel
  induction fuel with
  | zero =>
    intro listed a w _ _ _ hr hy hS H
    refine ⟨fun h => (by rw [h] at hr; cases hr), fun j hj => ?_⟩
    by_cases hji : j = i
    · subst hji; exact hy.wpOp hi hS ⟨fun _ => hS, H⟩
    · have := ready_mono hj hji
      rw [H.1] at this
      cases this
  | succ fuel ih =>
    intro listed a w hear hlate hfree hr hy hS H
    have hun := (mem_ready.1 hr).1
    refine ⟨fun h => (by rw [h] at hr; cases hr), fun j hj => ?_⟩
    by_cases hji : j = i
    · subst hji; exact hy.wpOp hi hS ⟨fun _ => hS, H⟩
    · have h1 := H.2 j (ready_mono hj hji)
      obtain ⟨hjun, oj, hoj, hall⟩ := mem_ready.1 hj
      have hnot : ∀ e ∈ oj.after, Region.binds md e = true → e.on ≠ i := fun e he hb heq => by
        have h1 := hall e he hb
        rw [heq, getD_both hun] at h1
        cases h1
      have hjl : j ∉ late := fun hl => by
        obtain ⟨oj', hoj', e, he, hb, hon⟩ := Region.waitsFor_spec (hlate j hl hjun)
        have : oj' = oj := Option.some.inj (hoj'.symm.trans hoj)
        subst this
        exact hnot e he hb hon
      have h2 := wpOp_putIf hoj (hfree j oj hoj hji hjun hnot) (fun cs b => hsel i oi cs b hi) (fun cs b => hsel j oj cs b hoj) hQ hy h1
      have hset : ∀ k, (listed.setIfInBounds j true).getD k true = false → listed.getD k true = false := fun k hun => by
        by_cases hjk : j = k
        · subst hjk; exact hjun
        · rw [getD_set_ne true hjk] at hun; exact hun
      have hej : early late (listed.setIfInBounds j true) = true := by rw [early_set hjl]; exact hear
      have heij : early late ((listed.setIfInBounds i true).setIfInBounds j true) = true := by rw [early_set hjl, early_set hil]; exact hear
      refine wpOp_mono (fun a' w' h3 => ⟨fun _ => h3.2.1 heij, ih (listed.setIfInBounds j true) a' w' hej (fun t ht hu => hlate t ht (hset t hu)) (fun k ok hk hki hun hno => hfree k ok hk hki (hset k hun) hno) (ready_mono hr (Ne.symm hji)) h3.1 (h3.2.1 heij) ?_⟩) h2
      rw [Array.setIfInBounds_comm _ _ hji]
      exact h3.2.2
theorem wpAnyR_first_any {i : Nat} {oi : Oper} {v : Value} (hi : ops[i]? = some oi) (hil : i ∉ late) (hsel : ∀ (j : Nat) (o : Oper) cs b, ops[j]? = some o → o.op ≠ .select cs b)
    (hQ : ∀ c a w, Q (.panic c) (a.put oi.dst v) w → Q (.panic c) a w) :
    ∀ (fuel : Nat) (listed : Array Bool) (a : Act) (w : World), (early late listed = true → S w) →
      (∀ j oj, ops[j]? = some oj → j ≠ i → listed.getD j true = false → (∀ e ∈ oj.after, Region.binds md e = true → e.on ≠ i) → oi.apart ops oj = true) →
      i ∈ Region.ready md ops listed → Yields P ops oi v a →
      wpAnyR P md ops Q S late fuel (listed.setIfInBounds i true) (a.put oi.dst v) w → wpAnyR P md ops Q S late (fuel + 1) listed a w := by
  intro fuel
  induction fuel with
  | zero =>
    intro listed a w hS _ hr hy H
    refine ⟨fun h => (by rw [h] at hr; cases hr), fun j hj => ?_⟩
    by_cases hji : j = i
    · subst hji; exact hy.wpOp hi ⟨fun h => hS (by rwa [early_set hil] at h), H⟩
    · have := ready_mono hj hji
      rw [H.1] at this
      cases this
  | succ fuel ih =>
    intro listed a w hS hfree hr hy H
    have hun := (mem_ready.1 hr).1
    refine ⟨fun h => (by rw [h] at hr; cases hr), fun j hj => ?_⟩
    by_cases hji : j = i
    · subst hji; exact hy.wpOp hi ⟨fun h => hS (by rwa [early_set hil] at h), H⟩
    · have h1 := H.2 j (ready_mono hj hji)
      obtain ⟨hjun, oj, hoj, hall⟩ := mem_ready.1 hj
      have hnot : ∀ e ∈ oj.after, Region.binds md e = true → e.on ≠ i := fun e he hb heq => by
        have h1 := hall e he hb
        rw [heq, getD_both hun] at h1
        cases h1
      have h2 := wpOp_put hoj (hfree j oj hoj hji hjun hnot) (fun cs b => hsel i oi cs b hi) (fun cs b => hsel j oj cs b hoj) hQ hy h1
      have hset : ∀ k, (listed.setIfInBounds j true).getD k true = false → listed.getD k true = false := fun k hun => by
        by_cases hjk : j = k
        · subst hjk; exact hjun
        · rw [getD_set_ne true hjk] at hun; exact hun
      have heq : early late ((listed.setIfInBounds i true).setIfInBounds j true) = early late (listed.setIfInBounds j true) := by rw [Array.setIfInBounds_comm _ _ (Ne.symm hji), early_set hil]
      refine wpOp_mono (fun a' w' h3 => ⟨fun h => h3.2.1 (by rw [heq]; exact h), ih (listed.setIfInBounds j true) a' w' (fun h => h3.2.1 (by rw [heq]; exact h)) (fun k ok hk hki hun hno => hfree k ok hk hki (hset k hun) hno) (ready_mono hr (Ne.symm hji)) h3.1 ?_⟩) h2
      rw [Array.setIfInBounds_comm _ _ hji]
      exact h3.2.2
def lateC (md : Region.Mode) (ops : Array Oper) (late : List Nat) (i : Nat) (listed : Array Bool) : Bool := early late listed && !late.contains i && late.all fun t => listed.getD t true || Region.waitsFor md ops t i
theorem wpAnyR_take (i : Nat) {oi : Oper} {v : Value} {fuel : Nat} {listed : Array Bool} {a : Act} {w : World} (hi : ops[i]? = some oi)
    (hs : Region.noSelect ops = true) (hl : lateC md ops late i listed = true) (hf : Region.free md ops listed i = true) (hr : (Region.ready md ops listed).contains i = true)
    (hQ : ∀ c a w, Q (.panic c) (a.put oi.dst v) w → Q (.panic c) a w) (hS : S w) (hy : Region.wanted oi (yielded ops a.tmps) = true ∧ ∀ w, S w → (execOp a.eval oi).run P w = .ok (.value v) w)
    (h : wpAnyR P md ops Q S late fuel (listed.setIfInBounds i true) (a.put oi.dst v) w) : wpAnyR P md ops Q S late (fuel + 1) listed a w := by
  simp only [lateC, Bool.and_eq_true, Bool.not_eq_true', List.contains_eq_mem, decide_eq_false_iff_not] at hl
  exact wpAnyR_first hi hl.1.2 (Region.noSelect_spec hs) hQ fuel listed a w hl.1.1 (fun t ht hu => by
    have := List.all_eq_true.1 hl.2 t ht
    rw [hu] at this
    simpa using this) (Region.free_spec hi hf) (by simpa using hr) (.inl hy) hS h
theorem wpAnyR_late (i : Nat) {oi : Oper} {v : Value} {fuel : Nat} {listed : Array Bool} {a : Act} {w : World} (hi : ops[i]? = some oi)
    (hs : Region.noSelect ops = true) (hl : (!late.contains i) = true) (hf : Region.free md ops listed i = true) (hr : (Region.ready md ops listed).contains i = true)
    (hQ : ∀ c a w, Q (.panic c) (a.put oi.dst v) w → Q (.panic c) a w) (hS : early late listed = true → S w) (hy : Region.wanted oi (yielded ops a.tmps) = true ∧ ∀ w, (execOp a.eval oi).run P w = .ok (.value v) w)
    (h : wpAnyR P md ops Q S late fuel (listed.setIfInBounds i true) (a.put oi.dst v) w) : wpAnyR P md ops Q S late (fuel + 1) listed a w :=
  wpAnyR_first_any hi (by simpa using hl) (Region.noSelect_spec hs) hQ fuel listed a w hS (Region.free_spec hi hf) (by simpa using hr) (.inl hy) h
/-- One operation alone may come up. -/
theorem wpAnyR_one (i : Nat) {oi : Oper} {fuel : Nat} {listed : Array Bool} {a : Act} {w : World} (hi : ops[i]? = some oi) (hr : Region.ready md ops listed = [i])
    (h : ∀ K' : Act → World → Prop, Shut (∀ a w, (early late (listed.setIfInBounds i true) = true → S w) → wpAnyR P md ops Q S late fuel (listed.setIfInBounds i true) a w → K' a w) → if Region.wanted oi (yielded ops a.tmps) = true then Oper.wp P oi a w K' Q else K' (a.put oi.dst undef) w) :
    wpAnyR P md ops Q S late (fuel + 1) listed a w :=
  ⟨fun h0 => (by rw [hr] at h0; cases h0), fun j hj => by
    rw [hr] at hj
    rw [List.mem_singleton.1 hj]
    exact wpOp_step hi (fun K' hK => h K' (fun a w hS hW => hK a w ⟨hS, hW⟩))⟩
theorem wpAnyR_done {listed : Array Bool} {a : Act} {w : World} (hr : Region.ready md ops listed = []) (h : Q .normal a w) : ∀ fuel, wpAnyR P md ops Q S late fuel listed a w
  | 0 => ⟨hr, h⟩
  | _ + 1 => ⟨fun _ => h, by rw [hr]; simp⟩
theorem wp_region_R {id : Nat} {a : Act} {w : World} (S : World → Prop) (late : List Nat) (hm : P.follows .mixedOrders = true)
    (h : wpAnyR P .any ops Q S late ops.size (Array.replicate ops.size false) a w.drew) : (Code.region id ops true).wp P Q a w :=
  wp_region_any hm (wpAny_of_R _ _ _ _ h)
end
end Go.Proofs.YtfmblalbcodpmaaDoor
namespace Go.Proofs.YtfmblalbcodpmaaDoor
open Go
section
variable {P : Program} {ops : Array Oper} {Q : Exit → Act → World → Prop} {md : Region.Mode} {S S' : World → Prop} {late : List Nat}
theorem wpAnyR_sub (hSS : ∀ w, S' w → S w) : ∀ (fuel : Nat) (listed : Array Bool) (a : Act) (w : World), wpAnyR P md ops Q S' late fuel listed a w → wpAnyR P md ops Q S late fuel listed a w
  | 0, _, _, _, h => h
  | fuel + 1, _, _, _, h => ⟨h.1, fun i hi => wpOp_mono (fun a' w' h' => ⟨fun e => hSS _ (h'.1 e), wpAnyR_sub hSS fuel _ a' w' h'.2⟩) (h.2 i hi)⟩
end
end Go.Proofs.YtfmblalbcodpmaaDoor
namespace Go.Proofs.YtfmblalbcodpmaaDoor
open Go.RowKit
def sp : UInt8 := 32
structure RowP where
  name : ByteArray
  types : ByteArray
  imm : Nat
  bits : Nat
  plain : Bool
def RowP.val (r : RowP) : Value := .agg #[.string r.name, .string r.types, .int .u8 (r.imm : Int), .int .i64 (r.bits : Int), .bool r.plain]
def RowP.zero : RowP := ⟨ByteArray.empty, ByteArray.empty, 0, 0, false⟩
def bitsP (l : List UInt8) : Nat := l.foldl (fun a b => 10 * a + (b.toNat - 48)) 0
def Grp.at_ (g : Grp) (k : Nat) : RowP := ⟨g.ahead ++ (piecesP g.names sp).getD k ByteArray.empty, wordP g.types k, g.imm, bitsP (wordP g.bits k).data.toList, g.plain⟩
def findP : List Grp → Nat → Option RowP
  | [], _ => none
  | g :: r, n => if n < g.first ∨ Lib.countB g.names ⟨#[sp]⟩ < n - g.first then findP r n else some (g.at_ (n - g.first))
def rowRet (o : Option RowP) : Value := match o with | some r => .tuple #[r.val, .bool true] | none => .tuple #[RowP.zero.val, .bool false]
structure GOk (g : Grp) : Prop where
  names : g.names.size < 100000
  ahead : g.ahead.size < 100000
  pieces : ∀ k, k ≤ Lib.countB g.names ⟨#[sp]⟩ → ((piecesP g.names sp).getD k ByteArray.empty).size < 100000
  types : g.types.size < 100000 ∧ Ascii g.types
  bits : g.bits.size < 100000 ∧ Ascii g.bits
  first : g.first < 65536
  digits : ∀ k, k ≤ Lib.countB g.names ⟨#[sp]⟩ → (wordP g.bits k).size ≤ 5 ∧ ∀ j, j < (wordP g.bits k).size → 48 ≤ ((wordP g.bits k).data.toList.getD j 48).toNat ∧ ((wordP g.bits k).data.toList.getD j 48).toNat ≤ 57
theorem findP_skip {l : List Grp} {n : Nat} : ∀ {k : Nat} {g : Grp}, l[k]? = some g → (n < g.first ∨ Lib.countB g.names ⟨#[sp]⟩ < n - g.first) → findP (l.drop k) n = findP (l.drop (k + 1)) n := by
  intro k g hg h
  have hk := (List.getElem?_eq_some_iff.1 hg).1
  have he := (List.getElem?_eq_some_iff.1 hg).2
  rw [List.drop_eq_getElem_cons hk, he, findP, if_pos h]
theorem findP_hit {l : List Grp} {n : Nat} : ∀ {k : Nat} {g : Grp}, l[k]? = some g → ¬ (n < g.first ∨ Lib.countB g.names ⟨#[sp]⟩ < n - g.first) → findP (l.drop k) n = some (g.at_ (n - g.first)) := by
  intro k g hg h
  have hk := (List.getElem?_eq_some_iff.1 hg).1
  have he := (List.getElem?_eq_some_iff.1 hg).2
  rw [List.drop_eq_getElem_cons hk, he, findP, if_neg h]
theorem gcells_get {l : List Grp} : ∀ {k : Nat} {g : Grp}, l[k]? = some g → ∀ j, j < 7 → (gcells l)[k * 7 + j]? = g.cells[j]? := by
  induction l with
  | nil => intro k g h; simp at h
  | cons a r ih =>
    intro k g h j hj
    have hl : a.cells.length = 7 := rfl
    have e : gcells (a :: r) = (a.cells ++ (r.flatMap Grp.cells)).toArray := by simp [gcells]
    rw [e, List.getElem?_toArray]
    cases k with
    | zero =>
      simp only [List.getElem?_cons_zero, Option.some.injEq] at h
      subst h
      rw [Nat.zero_mul, Nat.zero_add, List.getElem?_append_left (by omega)]
    | succ k =>
      simp only [List.getElem?_cons_succ] at h
      rw [List.getElem?_append_right (by omega), hl, show (k + 1) * 7 + j - 7 = k * 7 + j by omega]
      have := ih h j hj
      simpa [gcells] using this
theorem bitsP_lt : ∀ (l : List UInt8), l.length ≤ 5 → (∀ b ∈ l, b.toNat ≤ 57) → bitsP l < 100000 := by
  intro l hl h
  have key : ∀ (l : List UInt8) (a m : Nat), (∀ b ∈ l, b.toNat ≤ 57) → a + 1 ≤ m → l.foldl (fun a b => 10 * a + (b.toNat - 48)) a + 1 ≤ m * 10 ^ l.length := by
    intro l
    induction l with
    | nil => intro a m _ h; simpa using h
    | cons b r ih =>
      intro a m hb ha
      have h1 := hb b (List.mem_cons_self ..)
      have h2 := ih (10 * a + (b.toNat - 48)) (m * 10) (fun x hx => hb x (List.mem_cons_of_mem _ hx)) (by omega)
      rw [List.foldl_cons, List.length_cons, Nat.pow_succ, Nat.mul_comm (10 ^ r.length) 10, ← Nat.mul_assoc]
      exact h2
  have h1 := key l 0 1 h (Nat.le_refl _)
  have h2 : 10 ^ l.length ≤ 10 ^ 5 := Nat.pow_le_pow_right (by decide) hl
  unfold bitsP
  have h3 : 10 ^ 5 = 100000 := by decide
  omega
theorem bitsP_take (l : List UInt8) (p : Nat) (h : p < l.length) : bitsP (l.take (p + 1)) = 10 * bitsP (l.take p) + (l[p].toNat - 48) := by
  unfold bitsP
  rw [List.take_add_one, List.getElem?_eq_getElem h]
  simp only [Option.toList_some, List.foldl_append, List.foldl_cons, List.foldl_nil]
end Go.Proofs.YtfmblalbcodpmaaDoor
