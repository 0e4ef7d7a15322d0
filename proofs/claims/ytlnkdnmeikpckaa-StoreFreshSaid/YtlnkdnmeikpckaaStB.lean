/- Contracts of a store's lists: add, at. No condition. -/
import Derived.Test.YtlnkdnmeikpckaaStA
namespace Go.Proofs.Ytlnkdnmeikpckaa
open Go.RowKit

def AnyV : Value → Prop := fun _ => True
/-- The blocks of an object with an own slice. -/
def ST (tb : Nat) (lv : Value) : Nat → Prop := fun i => i = tb ∨ lv.ownBlock = some i
/-- An element's cells. -/
def ecell (xs : Array Value) : Nat → Value := fun i => xs.getD i undef

theorem info_ex {e size bytes : Nat} (h : (Try.prog.info? e).map (fun i => (i.size, i.bytes, i.zero.map (fun z => z.cells.size))) = some (size, bytes, some size)) :
    ∃ z, (Try.prog.info? e).map (fun i => (i.zero, i.size, i.bytes)) = some (some z, size, bytes) ∧ z.cells.size = size := by
  obtain ⟨i, hi, he⟩ := Option.map_eq_some_iff.1 h
  simp only [Prod.mk.injEq] at he
  obtain ⟨z, hz, hs⟩ := Option.map_eq_some_iff.1 he.2.2
  exact ⟨z, by rw [hi]; simp [hz, he.1, he.2.1], hs⟩

theorem Try.infoFUNC : (Try.prog.info? 36).map (fun i => (i.size, i.bytes, i.zero.map (fun z => z.cells.size))) = some (6, 88, some 6) := by kernel_rfl
theorem Try.sizeFUNC : (Try.prog.info? 36).map (·.size) = some 6 := by kernel_rfl
theorem Try.infoTAB : (Try.prog.info? 98).map (fun i => (i.size, i.bytes, i.zero.map (fun z => z.cells.size))) = some (1, 8, some 1) := by kernel_rfl
theorem Try.sizeTAB : (Try.prog.info? 98).map (·.size) = some 1 := by kernel_rfl
theorem Try.infoMEM : (Try.prog.info? 101).map (fun i => (i.size, i.bytes, i.zero.map (fun z => z.cells.size))) = some (1, 8, some 1) := by kernel_rfl
theorem Try.sizeMEM : (Try.prog.info? 101).map (·.size) = some 1 := by kernel_rfl
theorem Try.infoGLOB : (Try.prog.info? 144).map (fun i => (i.size, i.bytes, i.zero.map (fun z => z.cells.size))) = some (5, 32, some 5) := by kernel_rfl
theorem Try.sizeGLOB : (Try.prog.info? 144).map (·.size) = some 5 := by kernel_rfl
theorem Try.infoELEM : (Try.prog.info? 130).map (fun i => (i.size, i.bytes, i.zero.map (fun z => z.cells.size))) = some (2, 32, some 2) := by kernel_rfl
theorem Try.sizeELEM : (Try.prog.info? 130).map (·.size) = some 2 := by kernel_rfl
theorem Try.infoDATA : (Try.prog.info? 26).map (fun i => (i.size, i.bytes, i.zero.map (fun z => z.cells.size))) = some (1, 24, some 1) := by kernel_rfl
theorem Try.sizeDATA : (Try.prog.info? 26).map (·.size) = some 1 := by kernel_rfl
theorem Try.infoINST : (Try.prog.info? 106).map (fun i => (i.size, i.bytes, i.zero.map (fun z => z.cells.size))) = some (1, 8, some 1) := by kernel_rfl
theorem Try.sizeINST : (Try.prog.info? 106).map (·.size) = some 1 := by kernel_rfl

section
variable {w : World} {sb B n : Nat} {cs : Array Value} {lv : Value} {F : Nat → Value}

set_option maxHeartbeats 1600000 in
theorem add_FUNC (k : Nat) (x0 x1 x2 x3 x4 x5 : Value) (h0 : (x0).oneCell' = true) (h1 : (x1).oneCell' = true) (h2 : (x2).oneCell' = true) (h3 : (x3).oneCell' = true) (h4 : (x4).oneCell' = true) (h5 : (x5).oneCell' = true) (hb : Blk w sb 95 cs) (hck : cs[k]? = some lv) (hown : Own w B 36 6 AnyV lv n F) (hn : n < 65536) (hB : B ≤ w.heap.size) :
    Calls Try.prog 38 #[.pointer (some ⟨sb, k, none⟩), .agg #[x0, x1, x2, x3, x4, x5]] w fun e w' => e = .returned (.tuple #[.int .i64 (n : Int), .int .i64 0]) ∧ ∃ lv', Blk w' sb 95 (cs.setIfInBounds k lv') ∧ Own w' B 36 6 AnyV lv' (n + 1) (after (n * 6) F (ecell #[x0, x1, x2, x3, x4, x5])) ∧ Kept (ST sb lv) w w' ∧ (lv'.ownBlock = lv.ownBlock ∨ ∃ g, lv'.ownBlock = some g ∧ w.heap.size ≤ g) := by
  obtain ⟨A, c, hlv, _, _, _⟩ := hown.out
  obtain ⟨z, hinfo, hzs⟩ := info_ex Try.infoFUNC
  have hne := hown.ne_blk hb (by decide)
  have hka : Kept S0 w (w.alloc (.cells #[x0, x1, x2, x3, x4, x5] 36)) := (Kept.refl S0 w).alloc _
  have hX := Blk.new w 36 #[x0, x1, x2, x3, x4, x5]
  have y0 : (w.alloc (.cells #[x0, x1, x2, x3, x4, x5] 36)).cell? ⟨w.heap.size, 0, none⟩ = some x0 := hX.cell 0
  have y1 : (w.alloc (.cells #[x0, x1, x2, x3, x4, x5] 36)).cell? ⟨w.heap.size, 1, none⟩ = some x1 := hX.cell 1
  have y2 : (w.alloc (.cells #[x0, x1, x2, x3, x4, x5] 36)).cell? ⟨w.heap.size, 2, none⟩ = some x2 := hX.cell 2
  have y3 : (w.alloc (.cells #[x0, x1, x2, x3, x4, x5] 36)).cell? ⟨w.heap.size, 3, none⟩ = some x3 := hX.cell 3
  have y4 : (w.alloc (.cells #[x0, x1, x2, x3, x4, x5] 36)).cell? ⟨w.heap.size, 4, none⟩ = some x4 := hX.cell 4
  have y5 : (w.alloc (.cells #[x0, x1, x2, x3, x4, x5] 36)).cell? ⟨w.heap.size, 5, none⟩ = some x5 := hX.cell 5
  subst hlv
  have hb1 := hka.blk hb (fun x => x)
  have hcell : (w.alloc (.cells #[x0, x1, x2, x3, x4, x5] 36)).cell? ⟨sb, k, none⟩ = some (.slice A n c) := by rw [hb1.cell, hck]
  have hkc : Kept S0 w ((w.alloc (.cells #[x0, x1, x2, x3, x4, x5] 36)).alloc (.cells #[x0, x1, x2, x3, x4, x5] 36)) := hka.alloc _
  have hb2 := hkc.blk hb (fun x => x)
  have hown2 := hown.kept hkc (fun _ _ x => x)
  have hB2 : B ≤ ((w.alloc (.cells #[x0, x1, x2, x3, x4, x5] 36)).alloc (.cells #[x0, x1, x2, x3, x4, x5] 36)).heap.size := Nat.le_trans hB hkc.size
  have hnw := Blk.new1 w (.cells #[x0, x1, x2, x3, x4, x5] 36) 36 #[x0, x1, x2, x3, x4, x5]
  have hsl2 : Sl ((w.alloc (.cells #[x0, x1, x2, x3, x4, x5] 36)).alloc (.cells #[x0, x1, x2, x3, x4, x5] 36)) (some ⟨w.heap.size + 1, 0, none⟩) (1 * 6) (ecell #[x0, x1, x2, x3, x4, x5]) := fun _ => ⟨w.heap.size + 1, 0, rfl, fun i hi => by
    match i, hi with
    | 0, _ => exact hnw.cell 0
    | 1, _ => exact hnw.cell 1
    | 2, _ => exact hnw.cell 2
    | 3, _ => exact hnw.cell 3
    | 4, _ => exact hnw.cell 4
    | 5, _ => exact hnw.cell 5
⟩
  have hone : ∀ j, j < 1 * 6 → (ecell #[x0, x1, x2, x3, x4, x5] j).oneCell' = true := fun i hi => by
    match i, hi with
    | 0, _ => exact h0
    | 1, _ => exact h1
    | 2, _ => exact h2
    | 3, _ => exact h3
    | 4, _ => exact h4
    | 5, _ => exact h5

  have HKC := Lib.hid hkc
  have HB2 := Lib.hid hb2
  have HNE := Lib.hid hne
  have HCK := Lib.hid hck
  have hnn : decide ((65536 : Int) ≤ (n : Int)) = false := decide_eq_false (by omega)
  have hlt2 := hb2.lt
  have hlt1 := hb.lt
  have un : IntKind.i64.wrap ((n : Int) + 1 - 1) = (n : Int) := by rw [IntWalk.i64_in _ (by omega)]; omega
  have hkl : k < cs.size := (Array.getElem?_eq_some_iff.1 hck).1
  have hfk : w.frozen? ⟨sb, k, none⟩ = false := hb.frozen k
  clear hka hb1 hown hne hb hck hnw hb2 hkc hX
  go_enter Try.func38, Try.ntmps38
  go_wp2_with fail
  go_region_law (refine step_append_all rfl (.tmp 16) (.tmp 18) 73 rfl B 36 z 6 88 Try.underlying73 hinfo hzs (by omega) AnyV (fun _ _ => trivial) _ n F rfl hown2 (some ⟨w.heap.size + 1, 0, none⟩) 1 1 (ecell #[x0, x1, x2, x3, x4, x5]) rfl hsl2 (fun h => by cases h) (fun _ _ => trivial) hone (by unfold maxLen; omega) (by omega) hB2 ?_; intro v' w' ha; obtain ⟨A', c', rfl, _, _, _⟩ := ha.own.out; have hbx := ha.grown.block sb hlt2 (fun e => HNE.out e.symm); have hb6 : Blk w' sb 95 cs := hbx.trans HB2.out; have d5 : w'.cell? ⟨sb, k, none⟩ = some (.slice A n c) := (hb6.cell k).trans HCK.out; have y5 := hb6.frozen k; have HA := Lib.hid (show Appended _ w' B 36 6 AnyV (.slice A n c) (.slice A' (n + 1) c') (n + 1) _ 1 from ha); have HB6 := Lib.hid hb6; clear ha hbx hb6 hown2 hsl2)
  go_wp2_with fail
  all_goals
    have HKW := Lib.hid (show Kept (ST sb (.slice A n c)) w w' from (HKC.out.of0 _).grown ⟨HA.out.grown.os, HA.out.grown.tape, HA.out.grown.output, HA.out.grown.size, HA.out.grown.block⟩ (fun g hg => .inl (.inr hg)))
    have HOW := Lib.hid HA.out.own
    have HBL := Lib.hid HA.out.block
    have HBS := Lib.hid (HB6.out.set_ k (.slice A' (n + 1) c'))
    have HNE2 := Lib.hid (HA.out.own.ne_blk HB6.out (by decide))
    have hs6 : (cs.setIfInBounds k (.slice A' (n + 1) c'))[k]? = some (.slice A' (n + 1) c') := by simp [hkl]
    have d6 := (HBS.out.cell k).trans hs6
    clear hs6
    go_wp2_with fail
    go_ret2
    refine ⟨by simp, _, HBS.out, HOW.out.kept ((Kept.refl (S1 sb) w').setCell (p := ⟨sb, k, none⟩) (.inl rfl) _) (fun g hg e => HNE2.out (by have e' : g = sb := e; rw [← e']; exact hg)), HKW.out.setCell (p := ⟨sb, k, none⟩) (.inl (.inl rfl)) _, ?_⟩
    rcases HBL.out with e | e
    · exact .inl e
    · exact .inr ⟨_, e, by have := HKC.out.size; exact this⟩

set_option maxHeartbeats 1600000 in
theorem add_TAB (k : Nat) (p0 : Option Addr)  (hb : Blk w sb 95 cs) (hck : cs[k]? = some lv) (hown : Own w B 98 1 AnyV lv n F) (hn : n < 65536) (hB : B ≤ w.heap.size) :
    Calls Try.prog 52 #[.pointer (some ⟨sb, k, none⟩), (.pointer p0)] w fun e w' => e = .returned (.tuple #[.int .i64 (n : Int), .int .i64 0]) ∧ ∃ lv', Blk w' sb 95 (cs.setIfInBounds k lv') ∧ Own w' B 98 1 AnyV lv' (n + 1) (after n F (ecell #[(.pointer p0)])) ∧ Kept (ST sb lv) w w' ∧ (lv'.ownBlock = lv.ownBlock ∨ ∃ g, lv'.ownBlock = some g ∧ w.heap.size ≤ g) := by
  obtain ⟨A, c, hlv, _, _, _⟩ := hown.out
  obtain ⟨z, hinfo, hzs⟩ := info_ex Try.infoTAB
  have hne := hown.ne_blk hb (by decide)
  have hka : Kept S0 w w := Kept.refl S0 w
  subst hlv
  have hb1 := hka.blk hb (fun x => x)
  have hcell : w.cell? ⟨sb, k, none⟩ = some (.slice A n c) := by rw [hb1.cell, hck]
  have hkc : Kept S0 w (w.alloc (.cells #[(.pointer p0)] 98)) := hka.alloc _
  have hb2 := hkc.blk hb (fun x => x)
  have hown2 := hown.kept hkc (fun _ _ x => x)
  have hB2 : B ≤ (w.alloc (.cells #[(.pointer p0)] 98)).heap.size := Nat.le_trans hB hkc.size
  have hnw := Blk.new w 98 #[(.pointer p0)]
  have hsl2 : Sl (w.alloc (.cells #[(.pointer p0)] 98)) (some ⟨w.heap.size, 0, none⟩) (1 * 1) (ecell #[(.pointer p0)]) := fun _ => ⟨w.heap.size, 0, rfl, fun i hi => by
    match i, hi with
    | 0, _ => exact hnw.cell 0
⟩
  have hone : ∀ j, j < 1 * 1 → (ecell #[(.pointer p0)] j).oneCell' = true := fun i hi => by
    match i, hi with
    | 0, _ => exact rfl

  have HKC := Lib.hid hkc
  have HB2 := Lib.hid hb2
  have HNE := Lib.hid hne
  have HCK := Lib.hid hck
  have hnn : decide ((65536 : Int) ≤ (n : Int)) = false := decide_eq_false (by omega)
  have hlt2 := hb2.lt
  have hlt1 := hb.lt
  have un : IntKind.i64.wrap ((n : Int) + 1 - 1) = (n : Int) := by rw [IntWalk.i64_in _ (by omega)]; omega
  have hkl : k < cs.size := (Array.getElem?_eq_some_iff.1 hck).1
  have hfk : w.frozen? ⟨sb, k, none⟩ = false := hb.frozen k
  clear hka hb1 hown hne hb hck hnw hb2 hkc
  go_enter Try.func52, Try.ntmps52
  go_wp2_with (at_builtin; refine wpList_append_all rfl (.tmp 16) (.tmp 18) 76 rfl B 98 z 1 8 Try.underlying76 hinfo hzs (by omega) AnyV (fun _ _ => trivial) _ n F rfl hown2 (some ⟨w.heap.size, 0, none⟩) 1 1 (ecell #[(.pointer p0)]) rfl hsl2 (fun h => by cases h) (fun _ _ => trivial) hone (by unfold maxLen; omega) (by omega) hB2 ?_)
  all_goals
    intro v' w' ha
    obtain ⟨A', c', rfl, _, _, _⟩ := ha.own.out
    have hbx := ha.grown.block sb hlt2 (fun e => HNE.out e.symm)
    have hb6 : Blk w' sb 95 cs := hbx.trans HB2.out
    have d5 : w'.cell? ⟨sb, k, none⟩ = some (.slice A n c) := (hb6.cell k).trans HCK.out
    have y5 := hb6.frozen k
    have HA := Lib.hid (show Appended _ w' B 98 1 AnyV (.slice A n c) (.slice A' (n + 1) c') (n + 1) _ 1 from ha)
    have HB6 := Lib.hid hb6
    clear ha hbx hb6 hown2 hsl2
    go_wp2_with fail
    have HKW := Lib.hid (show Kept (ST sb (.slice A n c)) w w' from (HKC.out.of0 _).grown ⟨HA.out.grown.os, HA.out.grown.tape, HA.out.grown.output, HA.out.grown.size, HA.out.grown.block⟩ (fun g hg => .inl (.inr hg)))
    have HOW := Lib.hid HA.out.own
    have HBL := Lib.hid HA.out.block
    have HBS := Lib.hid (HB6.out.set_ k (.slice A' (n + 1) c'))
    have HNE2 := Lib.hid (HA.out.own.ne_blk HB6.out (by decide))
    have hs6 : (cs.setIfInBounds k (.slice A' (n + 1) c'))[k]? = some (.slice A' (n + 1) c') := by simp [hkl]
    have d6 := (HBS.out.cell k).trans hs6
    clear hs6
    go_wp2_with fail
    go_ret2
    refine ⟨by simp, _, HBS.out, HOW.out.kept ((Kept.refl (S1 sb) w').setCell (p := ⟨sb, k, none⟩) (.inl rfl) _) (fun g hg e => HNE2.out (by have e' : g = sb := e; rw [← e']; exact hg)), HKW.out.setCell (p := ⟨sb, k, none⟩) (.inl (.inl rfl)) _, ?_⟩
    rcases HBL.out with e | e
    · exact .inl e
    · exact .inr ⟨_, e, by have := HKC.out.size; exact this⟩

set_option maxHeartbeats 1600000 in
theorem add_MEM (k : Nat) (p0 : Option Addr)  (hb : Blk w sb 95 cs) (hck : cs[k]? = some lv) (hown : Own w B 101 1 AnyV lv n F) (hn : n < 65536) (hB : B ≤ w.heap.size) :
    Calls Try.prog 54 #[.pointer (some ⟨sb, k, none⟩), (.pointer p0)] w fun e w' => e = .returned (.tuple #[.int .i64 (n : Int), .int .i64 0]) ∧ ∃ lv', Blk w' sb 95 (cs.setIfInBounds k lv') ∧ Own w' B 101 1 AnyV lv' (n + 1) (after n F (ecell #[(.pointer p0)])) ∧ Kept (ST sb lv) w w' ∧ (lv'.ownBlock = lv.ownBlock ∨ ∃ g, lv'.ownBlock = some g ∧ w.heap.size ≤ g) := by
  obtain ⟨A, c, hlv, _, _, _⟩ := hown.out
  obtain ⟨z, hinfo, hzs⟩ := info_ex Try.infoMEM
  have hne := hown.ne_blk hb (by decide)
  have hka : Kept S0 w w := Kept.refl S0 w
  subst hlv
  have hb1 := hka.blk hb (fun x => x)
  have hcell : w.cell? ⟨sb, k, none⟩ = some (.slice A n c) := by rw [hb1.cell, hck]
  have hkc : Kept S0 w (w.alloc (.cells #[(.pointer p0)] 101)) := hka.alloc _
  have hb2 := hkc.blk hb (fun x => x)
  have hown2 := hown.kept hkc (fun _ _ x => x)
  have hB2 : B ≤ (w.alloc (.cells #[(.pointer p0)] 101)).heap.size := Nat.le_trans hB hkc.size
  have hnw := Blk.new w 101 #[(.pointer p0)]
  have hsl2 : Sl (w.alloc (.cells #[(.pointer p0)] 101)) (some ⟨w.heap.size, 0, none⟩) (1 * 1) (ecell #[(.pointer p0)]) := fun _ => ⟨w.heap.size, 0, rfl, fun i hi => by
    match i, hi with
    | 0, _ => exact hnw.cell 0
⟩
  have hone : ∀ j, j < 1 * 1 → (ecell #[(.pointer p0)] j).oneCell' = true := fun i hi => by
    match i, hi with
    | 0, _ => exact rfl

  have HKC := Lib.hid hkc
  have HB2 := Lib.hid hb2
  have HNE := Lib.hid hne
  have HCK := Lib.hid hck
  have hnn : decide ((65536 : Int) ≤ (n : Int)) = false := decide_eq_false (by omega)
  have hlt2 := hb2.lt
  have hlt1 := hb.lt
  have un : IntKind.i64.wrap ((n : Int) + 1 - 1) = (n : Int) := by rw [IntWalk.i64_in _ (by omega)]; omega
  have hkl : k < cs.size := (Array.getElem?_eq_some_iff.1 hck).1
  have hfk : w.frozen? ⟨sb, k, none⟩ = false := hb.frozen k
  clear hka hb1 hown hne hb hck hnw hb2 hkc
  go_enter Try.func54, Try.ntmps54
  go_wp2_with (at_builtin; refine wpList_append_all rfl (.tmp 16) (.tmp 18) 79 rfl B 101 z 1 8 Try.underlying79 hinfo hzs (by omega) AnyV (fun _ _ => trivial) _ n F rfl hown2 (some ⟨w.heap.size, 0, none⟩) 1 1 (ecell #[(.pointer p0)]) rfl hsl2 (fun h => by cases h) (fun _ _ => trivial) hone (by unfold maxLen; omega) (by omega) hB2 ?_)
  all_goals
    intro v' w' ha
    obtain ⟨A', c', rfl, _, _, _⟩ := ha.own.out
    have hbx := ha.grown.block sb hlt2 (fun e => HNE.out e.symm)
    have hb6 : Blk w' sb 95 cs := hbx.trans HB2.out
    have d5 : w'.cell? ⟨sb, k, none⟩ = some (.slice A n c) := (hb6.cell k).trans HCK.out
    have y5 := hb6.frozen k
    have HA := Lib.hid (show Appended _ w' B 101 1 AnyV (.slice A n c) (.slice A' (n + 1) c') (n + 1) _ 1 from ha)
    have HB6 := Lib.hid hb6
    clear ha hbx hb6 hown2 hsl2
    go_wp2_with fail
    have HKW := Lib.hid (show Kept (ST sb (.slice A n c)) w w' from (HKC.out.of0 _).grown ⟨HA.out.grown.os, HA.out.grown.tape, HA.out.grown.output, HA.out.grown.size, HA.out.grown.block⟩ (fun g hg => .inl (.inr hg)))
    have HOW := Lib.hid HA.out.own
    have HBL := Lib.hid HA.out.block
    have HBS := Lib.hid (HB6.out.set_ k (.slice A' (n + 1) c'))
    have HNE2 := Lib.hid (HA.out.own.ne_blk HB6.out (by decide))
    have hs6 : (cs.setIfInBounds k (.slice A' (n + 1) c'))[k]? = some (.slice A' (n + 1) c') := by simp [hkl]
    have d6 := (HBS.out.cell k).trans hs6
    clear hs6
    go_wp2_with fail
    go_ret2
    refine ⟨by simp, _, HBS.out, HOW.out.kept ((Kept.refl (S1 sb) w').setCell (p := ⟨sb, k, none⟩) (.inl rfl) _) (fun g hg e => HNE2.out (by have e' : g = sb := e; rw [← e']; exact hg)), HKW.out.setCell (p := ⟨sb, k, none⟩) (.inl (.inl rfl)) _, ?_⟩
    rcases HBL.out with e | e
    · exact .inl e
    · exact .inr ⟨_, e, by have := HKC.out.size; exact this⟩

set_option maxHeartbeats 1600000 in
theorem add_GLOB (k : Nat) (x0 x1 x2 x3 x4 : Value) (h0 : (x0).oneCell' = true) (h1 : (x1).oneCell' = true) (h2 : (x2).oneCell' = true) (h3 : (x3).oneCell' = true) (h4 : (x4).oneCell' = true) (hb : Blk w sb 95 cs) (hck : cs[k]? = some lv) (hown : Own w B 144 5 AnyV lv n F) (hn : n < 65536) (hB : B ≤ w.heap.size) :
    Calls Try.prog 55 #[.pointer (some ⟨sb, k, none⟩), .agg #[x0, x1, x2, x3, x4]] w fun e w' => e = .returned (.tuple #[.int .i64 (n : Int), .int .i64 0]) ∧ ∃ lv', Blk w' sb 95 (cs.setIfInBounds k lv') ∧ Own w' B 144 5 AnyV lv' (n + 1) (after (n * 5) F (ecell #[x0, x1, x2, x3, x4])) ∧ Kept (ST sb lv) w w' ∧ (lv'.ownBlock = lv.ownBlock ∨ ∃ g, lv'.ownBlock = some g ∧ w.heap.size ≤ g) := by
  obtain ⟨A, c, hlv, _, _, _⟩ := hown.out
  obtain ⟨z, hinfo, hzs⟩ := info_ex Try.infoGLOB
  have hne := hown.ne_blk hb (by decide)
  have hka : Kept S0 w (w.alloc (.cells #[x0, x1, x2, x3, x4] 144)) := (Kept.refl S0 w).alloc _
  have hX := Blk.new w 144 #[x0, x1, x2, x3, x4]
  have y0 : (w.alloc (.cells #[x0, x1, x2, x3, x4] 144)).cell? ⟨w.heap.size, 0, none⟩ = some x0 := hX.cell 0
  have y1 : (w.alloc (.cells #[x0, x1, x2, x3, x4] 144)).cell? ⟨w.heap.size, 1, none⟩ = some x1 := hX.cell 1
  have y2 : (w.alloc (.cells #[x0, x1, x2, x3, x4] 144)).cell? ⟨w.heap.size, 2, none⟩ = some x2 := hX.cell 2
  have y3 : (w.alloc (.cells #[x0, x1, x2, x3, x4] 144)).cell? ⟨w.heap.size, 3, none⟩ = some x3 := hX.cell 3
  have y4 : (w.alloc (.cells #[x0, x1, x2, x3, x4] 144)).cell? ⟨w.heap.size, 4, none⟩ = some x4 := hX.cell 4
  subst hlv
  have hb1 := hka.blk hb (fun x => x)
  have hcell : (w.alloc (.cells #[x0, x1, x2, x3, x4] 144)).cell? ⟨sb, k, none⟩ = some (.slice A n c) := by rw [hb1.cell, hck]
  have hkc : Kept S0 w ((w.alloc (.cells #[x0, x1, x2, x3, x4] 144)).alloc (.cells #[x0, x1, x2, x3, x4] 144)) := hka.alloc _
  have hb2 := hkc.blk hb (fun x => x)
  have hown2 := hown.kept hkc (fun _ _ x => x)
  have hB2 : B ≤ ((w.alloc (.cells #[x0, x1, x2, x3, x4] 144)).alloc (.cells #[x0, x1, x2, x3, x4] 144)).heap.size := Nat.le_trans hB hkc.size
  have hnw := Blk.new1 w (.cells #[x0, x1, x2, x3, x4] 144) 144 #[x0, x1, x2, x3, x4]
  have hsl2 : Sl ((w.alloc (.cells #[x0, x1, x2, x3, x4] 144)).alloc (.cells #[x0, x1, x2, x3, x4] 144)) (some ⟨w.heap.size + 1, 0, none⟩) (1 * 5) (ecell #[x0, x1, x2, x3, x4]) := fun _ => ⟨w.heap.size + 1, 0, rfl, fun i hi => by
    match i, hi with
    | 0, _ => exact hnw.cell 0
    | 1, _ => exact hnw.cell 1
    | 2, _ => exact hnw.cell 2
    | 3, _ => exact hnw.cell 3
    | 4, _ => exact hnw.cell 4
⟩
  have hone : ∀ j, j < 1 * 5 → (ecell #[x0, x1, x2, x3, x4] j).oneCell' = true := fun i hi => by
    match i, hi with
    | 0, _ => exact h0
    | 1, _ => exact h1
    | 2, _ => exact h2
    | 3, _ => exact h3
    | 4, _ => exact h4

  have HKC := Lib.hid hkc
  have HB2 := Lib.hid hb2
  have HNE := Lib.hid hne
  have HCK := Lib.hid hck
  have hnn : decide ((65536 : Int) ≤ (n : Int)) = false := decide_eq_false (by omega)
  have hlt2 := hb2.lt
  have hlt1 := hb.lt
  have un : IntKind.i64.wrap ((n : Int) + 1 - 1) = (n : Int) := by rw [IntWalk.i64_in _ (by omega)]; omega
  have hkl : k < cs.size := (Array.getElem?_eq_some_iff.1 hck).1
  have hfk : w.frozen? ⟨sb, k, none⟩ = false := hb.frozen k
  clear hka hb1 hown hne hb hck hnw hb2 hkc hX
  go_enter Try.func55, Try.ntmps55
  go_wp2_with fail
  go_region_law (refine step_append_all rfl (.tmp 16) (.tmp 18) 82 rfl B 144 z 5 32 Try.underlying82 hinfo hzs (by omega) AnyV (fun _ _ => trivial) _ n F rfl hown2 (some ⟨w.heap.size + 1, 0, none⟩) 1 1 (ecell #[x0, x1, x2, x3, x4]) rfl hsl2 (fun h => by cases h) (fun _ _ => trivial) hone (by unfold maxLen; omega) (by omega) hB2 ?_; intro v' w' ha; obtain ⟨A', c', rfl, _, _, _⟩ := ha.own.out; have hbx := ha.grown.block sb hlt2 (fun e => HNE.out e.symm); have hb6 : Blk w' sb 95 cs := hbx.trans HB2.out; have d5 : w'.cell? ⟨sb, k, none⟩ = some (.slice A n c) := (hb6.cell k).trans HCK.out; have y5 := hb6.frozen k; have HA := Lib.hid (show Appended _ w' B 144 5 AnyV (.slice A n c) (.slice A' (n + 1) c') (n + 1) _ 1 from ha); have HB6 := Lib.hid hb6; clear ha hbx hb6 hown2 hsl2)
  go_wp2_with fail
  all_goals
    have HKW := Lib.hid (show Kept (ST sb (.slice A n c)) w w' from (HKC.out.of0 _).grown ⟨HA.out.grown.os, HA.out.grown.tape, HA.out.grown.output, HA.out.grown.size, HA.out.grown.block⟩ (fun g hg => .inl (.inr hg)))
    have HOW := Lib.hid HA.out.own
    have HBL := Lib.hid HA.out.block
    have HBS := Lib.hid (HB6.out.set_ k (.slice A' (n + 1) c'))
    have HNE2 := Lib.hid (HA.out.own.ne_blk HB6.out (by decide))
    have hs6 : (cs.setIfInBounds k (.slice A' (n + 1) c'))[k]? = some (.slice A' (n + 1) c') := by simp [hkl]
    have d6 := (HBS.out.cell k).trans hs6
    clear hs6
    go_wp2_with fail
    go_ret2
    refine ⟨by simp, _, HBS.out, HOW.out.kept ((Kept.refl (S1 sb) w').setCell (p := ⟨sb, k, none⟩) (.inl rfl) _) (fun g hg e => HNE2.out (by have e' : g = sb := e; rw [← e']; exact hg)), HKW.out.setCell (p := ⟨sb, k, none⟩) (.inl (.inl rfl)) _, ?_⟩
    rcases HBL.out with e | e
    · exact .inl e
    · exact .inr ⟨_, e, by have := HKC.out.size; exact this⟩

set_option maxHeartbeats 1600000 in
theorem add_ELEM (k : Nat) (x0 x1 : Value) (h0 : (x0).oneCell' = true) (h1 : (x1).oneCell' = true) (hb : Blk w sb 95 cs) (hck : cs[k]? = some lv) (hown : Own w B 130 2 AnyV lv n F) (hn : n < 65536) (hB : B ≤ w.heap.size) :
    Calls Try.prog 43 #[.pointer (some ⟨sb, k, none⟩), .agg #[x0, x1]] w fun e w' => e = .returned (.tuple #[.int .i64 (n : Int), .int .i64 0]) ∧ ∃ lv', Blk w' sb 95 (cs.setIfInBounds k lv') ∧ Own w' B 130 2 AnyV lv' (n + 1) (after (n * 2) F (ecell #[x0, x1])) ∧ Kept (ST sb lv) w w' ∧ (lv'.ownBlock = lv.ownBlock ∨ ∃ g, lv'.ownBlock = some g ∧ w.heap.size ≤ g) := by
  obtain ⟨A, c, hlv, _, _, _⟩ := hown.out
  obtain ⟨z, hinfo, hzs⟩ := info_ex Try.infoELEM
  have hne := hown.ne_blk hb (by decide)
  have hka : Kept S0 w (w.alloc (.cells #[x0, x1] 130)) := (Kept.refl S0 w).alloc _
  have hX := Blk.new w 130 #[x0, x1]
  have y0 : (w.alloc (.cells #[x0, x1] 130)).cell? ⟨w.heap.size, 0, none⟩ = some x0 := hX.cell 0
  have y1 : (w.alloc (.cells #[x0, x1] 130)).cell? ⟨w.heap.size, 1, none⟩ = some x1 := hX.cell 1
  subst hlv
  have hb1 := hka.blk hb (fun x => x)
  have hcell : (w.alloc (.cells #[x0, x1] 130)).cell? ⟨sb, k, none⟩ = some (.slice A n c) := by rw [hb1.cell, hck]
  have hkc : Kept S0 w ((w.alloc (.cells #[x0, x1] 130)).alloc (.cells #[x0, x1] 130)) := hka.alloc _
  have hb2 := hkc.blk hb (fun x => x)
  have hown2 := hown.kept hkc (fun _ _ x => x)
  have hB2 : B ≤ ((w.alloc (.cells #[x0, x1] 130)).alloc (.cells #[x0, x1] 130)).heap.size := Nat.le_trans hB hkc.size
  have hnw := Blk.new1 w (.cells #[x0, x1] 130) 130 #[x0, x1]
  have hsl2 : Sl ((w.alloc (.cells #[x0, x1] 130)).alloc (.cells #[x0, x1] 130)) (some ⟨w.heap.size + 1, 0, none⟩) (1 * 2) (ecell #[x0, x1]) := fun _ => ⟨w.heap.size + 1, 0, rfl, fun i hi => by
    match i, hi with
    | 0, _ => exact hnw.cell 0
    | 1, _ => exact hnw.cell 1
⟩
  have hone : ∀ j, j < 1 * 2 → (ecell #[x0, x1] j).oneCell' = true := fun i hi => by
    match i, hi with
    | 0, _ => exact h0
    | 1, _ => exact h1

  have HKC := Lib.hid hkc
  have HB2 := Lib.hid hb2
  have HNE := Lib.hid hne
  have HCK := Lib.hid hck
  have hnn : decide ((65536 : Int) ≤ (n : Int)) = false := decide_eq_false (by omega)
  have hlt2 := hb2.lt
  have hlt1 := hb.lt
  have un : IntKind.i64.wrap ((n : Int) + 1 - 1) = (n : Int) := by rw [IntWalk.i64_in _ (by omega)]; omega
  have hkl : k < cs.size := (Array.getElem?_eq_some_iff.1 hck).1
  have hfk : w.frozen? ⟨sb, k, none⟩ = false := hb.frozen k
  clear hka hb1 hown hne hb hck hnw hb2 hkc hX
  go_enter Try.func43, Try.ntmps43
  go_wp2_with fail
  go_region_law (refine step_append_all rfl (.tmp 16) (.tmp 18) 85 rfl B 130 z 2 32 Try.underlying85 hinfo hzs (by omega) AnyV (fun _ _ => trivial) _ n F rfl hown2 (some ⟨w.heap.size + 1, 0, none⟩) 1 1 (ecell #[x0, x1]) rfl hsl2 (fun h => by cases h) (fun _ _ => trivial) hone (by unfold maxLen; omega) (by omega) hB2 ?_; intro v' w' ha; obtain ⟨A', c', rfl, _, _, _⟩ := ha.own.out; have hbx := ha.grown.block sb hlt2 (fun e => HNE.out e.symm); have hb6 : Blk w' sb 95 cs := hbx.trans HB2.out; have d5 : w'.cell? ⟨sb, k, none⟩ = some (.slice A n c) := (hb6.cell k).trans HCK.out; have y5 := hb6.frozen k; have HA := Lib.hid (show Appended _ w' B 130 2 AnyV (.slice A n c) (.slice A' (n + 1) c') (n + 1) _ 1 from ha); have HB6 := Lib.hid hb6; clear ha hbx hb6 hown2 hsl2)
  go_wp2_with fail
  all_goals
    have HKW := Lib.hid (show Kept (ST sb (.slice A n c)) w w' from (HKC.out.of0 _).grown ⟨HA.out.grown.os, HA.out.grown.tape, HA.out.grown.output, HA.out.grown.size, HA.out.grown.block⟩ (fun g hg => .inl (.inr hg)))
    have HOW := Lib.hid HA.out.own
    have HBL := Lib.hid HA.out.block
    have HBS := Lib.hid (HB6.out.set_ k (.slice A' (n + 1) c'))
    have HNE2 := Lib.hid (HA.out.own.ne_blk HB6.out (by decide))
    have hs6 : (cs.setIfInBounds k (.slice A' (n + 1) c'))[k]? = some (.slice A' (n + 1) c') := by simp [hkl]
    have d6 := (HBS.out.cell k).trans hs6
    clear hs6
    go_wp2_with fail
    go_ret2
    refine ⟨by simp, _, HBS.out, HOW.out.kept ((Kept.refl (S1 sb) w').setCell (p := ⟨sb, k, none⟩) (.inl rfl) _) (fun g hg e => HNE2.out (by have e' : g = sb := e; rw [← e']; exact hg)), HKW.out.setCell (p := ⟨sb, k, none⟩) (.inl (.inl rfl)) _, ?_⟩
    rcases HBL.out with e | e
    · exact .inl e
    · exact .inr ⟨_, e, by have := HKC.out.size; exact this⟩

set_option maxHeartbeats 1600000 in
theorem add_DATA (k : Nat) (p0 : Option Addr) (p1 p2 : Nat)  (hb : Blk w sb 95 cs) (hck : cs[k]? = some lv) (hown : Own w B 26 1 AnyV lv n F) (hn : n < 65536) (hB : B ≤ w.heap.size) :
    Calls Try.prog 45 #[.pointer (some ⟨sb, k, none⟩), (.slice p0 p1 p2)] w fun e w' => e = .returned (.tuple #[.int .i64 (n : Int), .int .i64 0]) ∧ ∃ lv', Blk w' sb 95 (cs.setIfInBounds k lv') ∧ Own w' B 26 1 AnyV lv' (n + 1) (after n F (ecell #[(.slice p0 p1 p2)])) ∧ Kept (ST sb lv) w w' ∧ (lv'.ownBlock = lv.ownBlock ∨ ∃ g, lv'.ownBlock = some g ∧ w.heap.size ≤ g) := by
  obtain ⟨A, c, hlv, _, _, _⟩ := hown.out
  obtain ⟨z, hinfo, hzs⟩ := info_ex Try.infoDATA
  have hne := hown.ne_blk hb (by decide)
  have hka : Kept S0 w w := Kept.refl S0 w
  subst hlv
  have hb1 := hka.blk hb (fun x => x)
  have hcell : w.cell? ⟨sb, k, none⟩ = some (.slice A n c) := by rw [hb1.cell, hck]
  have hkc : Kept S0 w (w.alloc (.cells #[(.slice p0 p1 p2)] 26)) := hka.alloc _
  have hb2 := hkc.blk hb (fun x => x)
  have hown2 := hown.kept hkc (fun _ _ x => x)
  have hB2 : B ≤ (w.alloc (.cells #[(.slice p0 p1 p2)] 26)).heap.size := Nat.le_trans hB hkc.size
  have hnw := Blk.new w 26 #[(.slice p0 p1 p2)]
  have hsl2 : Sl (w.alloc (.cells #[(.slice p0 p1 p2)] 26)) (some ⟨w.heap.size, 0, none⟩) (1 * 1) (ecell #[(.slice p0 p1 p2)]) := fun _ => ⟨w.heap.size, 0, rfl, fun i hi => by
    match i, hi with
    | 0, _ => exact hnw.cell 0
⟩
  have hone : ∀ j, j < 1 * 1 → (ecell #[(.slice p0 p1 p2)] j).oneCell' = true := fun i hi => by
    match i, hi with
    | 0, _ => exact rfl

  have HKC := Lib.hid hkc
  have HB2 := Lib.hid hb2
  have HNE := Lib.hid hne
  have HCK := Lib.hid hck
  have hnn : decide ((65536 : Int) ≤ (n : Int)) = false := decide_eq_false (by omega)
  have hlt2 := hb2.lt
  have hlt1 := hb.lt
  have un : IntKind.i64.wrap ((n : Int) + 1 - 1) = (n : Int) := by rw [IntWalk.i64_in _ (by omega)]; omega
  have hkl : k < cs.size := (Array.getElem?_eq_some_iff.1 hck).1
  have hfk : w.frozen? ⟨sb, k, none⟩ = false := hb.frozen k
  clear hka hb1 hown hne hb hck hnw hb2 hkc
  go_enter Try.func45, Try.ntmps45
  go_wp2_with (at_builtin; refine wpList_append_all rfl (.tmp 16) (.tmp 18) 88 rfl B 26 z 1 24 Try.underlying88 hinfo hzs (by omega) AnyV (fun _ _ => trivial) _ n F rfl hown2 (some ⟨w.heap.size, 0, none⟩) 1 1 (ecell #[(.slice p0 p1 p2)]) rfl hsl2 (fun h => by cases h) (fun _ _ => trivial) hone (by unfold maxLen; omega) (by omega) hB2 ?_)
  all_goals
    intro v' w' ha
    obtain ⟨A', c', rfl, _, _, _⟩ := ha.own.out
    have hbx := ha.grown.block sb hlt2 (fun e => HNE.out e.symm)
    have hb6 : Blk w' sb 95 cs := hbx.trans HB2.out
    have d5 : w'.cell? ⟨sb, k, none⟩ = some (.slice A n c) := (hb6.cell k).trans HCK.out
    have y5 := hb6.frozen k
    have HA := Lib.hid (show Appended _ w' B 26 1 AnyV (.slice A n c) (.slice A' (n + 1) c') (n + 1) _ 1 from ha)
    have HB6 := Lib.hid hb6
    clear ha hbx hb6 hown2 hsl2
    go_wp2_with fail
    have HKW := Lib.hid (show Kept (ST sb (.slice A n c)) w w' from (HKC.out.of0 _).grown ⟨HA.out.grown.os, HA.out.grown.tape, HA.out.grown.output, HA.out.grown.size, HA.out.grown.block⟩ (fun g hg => .inl (.inr hg)))
    have HOW := Lib.hid HA.out.own
    have HBL := Lib.hid HA.out.block
    have HBS := Lib.hid (HB6.out.set_ k (.slice A' (n + 1) c'))
    have HNE2 := Lib.hid (HA.out.own.ne_blk HB6.out (by decide))
    have hs6 : (cs.setIfInBounds k (.slice A' (n + 1) c'))[k]? = some (.slice A' (n + 1) c') := by simp [hkl]
    have d6 := (HBS.out.cell k).trans hs6
    clear hs6
    go_wp2_with fail
    go_ret2
    refine ⟨by simp, _, HBS.out, HOW.out.kept ((Kept.refl (S1 sb) w').setCell (p := ⟨sb, k, none⟩) (.inl rfl) _) (fun g hg e => HNE2.out (by have e' : g = sb := e; rw [← e']; exact hg)), HKW.out.setCell (p := ⟨sb, k, none⟩) (.inl (.inl rfl)) _, ?_⟩
    rcases HBL.out with e | e
    · exact .inl e
    · exact .inr ⟨_, e, by have := HKC.out.size; exact this⟩

set_option maxHeartbeats 1600000 in
theorem add_INST (k : Nat) (p0 : Option Addr)  (hb : Blk w sb 95 cs) (hck : cs[k]? = some lv) (hown : Own w B 106 1 AnyV lv n F) (hn : n < 65536) (hB : B ≤ w.heap.size) :
    Calls Try.prog 62 #[.pointer (some ⟨sb, k, none⟩), (.pointer p0)] w fun e w' => e = .returned (.tuple #[.int .i64 (n : Int), .int .i64 0]) ∧ ∃ lv', Blk w' sb 95 (cs.setIfInBounds k lv') ∧ Own w' B 106 1 AnyV lv' (n + 1) (after n F (ecell #[(.pointer p0)])) ∧ Kept (ST sb lv) w w' ∧ (lv'.ownBlock = lv.ownBlock ∨ ∃ g, lv'.ownBlock = some g ∧ w.heap.size ≤ g) := by
  obtain ⟨A, c, hlv, _, _, _⟩ := hown.out
  obtain ⟨z, hinfo, hzs⟩ := info_ex Try.infoINST
  have hne := hown.ne_blk hb (by decide)
  have hka : Kept S0 w w := Kept.refl S0 w
  subst hlv
  have hb1 := hka.blk hb (fun x => x)
  have hcell : w.cell? ⟨sb, k, none⟩ = some (.slice A n c) := by rw [hb1.cell, hck]
  have hkc : Kept S0 w (w.alloc (.cells #[(.pointer p0)] 106)) := hka.alloc _
  have hb2 := hkc.blk hb (fun x => x)
  have hown2 := hown.kept hkc (fun _ _ x => x)
  have hB2 : B ≤ (w.alloc (.cells #[(.pointer p0)] 106)).heap.size := Nat.le_trans hB hkc.size
  have hnw := Blk.new w 106 #[(.pointer p0)]
  have hsl2 : Sl (w.alloc (.cells #[(.pointer p0)] 106)) (some ⟨w.heap.size, 0, none⟩) (1 * 1) (ecell #[(.pointer p0)]) := fun _ => ⟨w.heap.size, 0, rfl, fun i hi => by
    match i, hi with
    | 0, _ => exact hnw.cell 0
⟩
  have hone : ∀ j, j < 1 * 1 → (ecell #[(.pointer p0)] j).oneCell' = true := fun i hi => by
    match i, hi with
    | 0, _ => exact rfl

  have HKC := Lib.hid hkc
  have HB2 := Lib.hid hb2
  have HNE := Lib.hid hne
  have HCK := Lib.hid hck
  have hnn : decide ((65536 : Int) ≤ (n : Int)) = false := decide_eq_false (by omega)
  have hlt2 := hb2.lt
  have hlt1 := hb.lt
  have un : IntKind.i64.wrap ((n : Int) + 1 - 1) = (n : Int) := by rw [IntWalk.i64_in _ (by omega)]; omega
  have hkl : k < cs.size := (Array.getElem?_eq_some_iff.1 hck).1
  have hfk : w.frozen? ⟨sb, k, none⟩ = false := hb.frozen k
  clear hka hb1 hown hne hb hck hnw hb2 hkc
  go_enter Try.func62, Try.ntmps62
  go_wp2_with (at_builtin; refine wpList_append_all rfl (.tmp 16) (.tmp 18) 91 rfl B 106 z 1 8 Try.underlying91 hinfo hzs (by omega) AnyV (fun _ _ => trivial) _ n F rfl hown2 (some ⟨w.heap.size, 0, none⟩) 1 1 (ecell #[(.pointer p0)]) rfl hsl2 (fun h => by cases h) (fun _ _ => trivial) hone (by unfold maxLen; omega) (by omega) hB2 ?_)
  all_goals
    intro v' w' ha
    obtain ⟨A', c', rfl, _, _, _⟩ := ha.own.out
    have hbx := ha.grown.block sb hlt2 (fun e => HNE.out e.symm)
    have hb6 : Blk w' sb 95 cs := hbx.trans HB2.out
    have d5 : w'.cell? ⟨sb, k, none⟩ = some (.slice A n c) := (hb6.cell k).trans HCK.out
    have y5 := hb6.frozen k
    have HA := Lib.hid (show Appended _ w' B 106 1 AnyV (.slice A n c) (.slice A' (n + 1) c') (n + 1) _ 1 from ha)
    have HB6 := Lib.hid hb6
    clear ha hbx hb6 hown2 hsl2
    go_wp2_with fail
    have HKW := Lib.hid (show Kept (ST sb (.slice A n c)) w w' from (HKC.out.of0 _).grown ⟨HA.out.grown.os, HA.out.grown.tape, HA.out.grown.output, HA.out.grown.size, HA.out.grown.block⟩ (fun g hg => .inl (.inr hg)))
    have HOW := Lib.hid HA.out.own
    have HBL := Lib.hid HA.out.block
    have HBS := Lib.hid (HB6.out.set_ k (.slice A' (n + 1) c'))
    have HNE2 := Lib.hid (HA.out.own.ne_blk HB6.out (by decide))
    have hs6 : (cs.setIfInBounds k (.slice A' (n + 1) c'))[k]? = some (.slice A' (n + 1) c') := by simp [hkl]
    have d6 := (HBS.out.cell k).trans hs6
    clear hs6
    go_wp2_with fail
    go_ret2
    refine ⟨by simp, _, HBS.out, HOW.out.kept ((Kept.refl (S1 sb) w').setCell (p := ⟨sb, k, none⟩) (.inl rfl) _) (fun g hg e => HNE2.out (by have e' : g = sb := e; rw [← e']; exact hg)), HKW.out.setCell (p := ⟨sb, k, none⟩) (.inl (.inl rfl)) _, ?_⟩
    rcases HBL.out with e | e
    · exact .inl e
    · exact .inr ⟨_, e, by have := HKC.out.size; exact this⟩
end
end Go.Proofs.Ytlnkdnmeikpckaa
