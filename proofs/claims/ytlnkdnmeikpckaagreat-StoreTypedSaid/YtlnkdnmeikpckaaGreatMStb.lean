/- What the proofs lean on, part 2 of St. No condition. -/
import Derived.Test.YtlnkdnmeikpckaaGreatMSta
import Derived.Test.YtlnkdnmeikpckaaGreatProg
import Derived.StillTailTactics
namespace Go.Proofs.YtlnkdnmeikpckaaGreat
open Go.RowKit
set_option maxRecDepth 100000
def AnyV : Value → Prop := fun _ => True
/-- The blocks of an object with an own slice. -/
def ST (tb : Nat) (lv : Value) : Nat → Prop := fun i => i = tb ∨ lv.ownBlock = some i
/-- An element's cells. -/
def ecell (xs : Array Value) : Nat → Value := fun i => xs.getD i undef
theorem info_ex {e size bytes : Nat} (h : (Tryz.prog.info? e).map (fun i => (i.size, i.bytes, i.zero.map (fun z => z.cells.size))) = some (size, bytes, some size)) :
    ∃ z, (Tryz.prog.info? e).map (fun i => (i.zero, i.size, i.bytes)) = some (some z, size, bytes) ∧ z.cells.size = size := by
  obtain ⟨i, hi, he⟩ := Option.map_eq_some_iff.1 h
  simp only [Prod.mk.injEq] at he
  obtain ⟨z, hz, hs⟩ := Option.map_eq_some_iff.1 he.2.2
  exact ⟨z, by rw [hi]; simp [hz, he.1, he.2.1], hs⟩
theorem Tryz.infoFUNC : (Tryz.prog.info? 51).map (fun i => (i.size, i.bytes, i.zero.map (fun z => z.cells.size))) = some (6, 88, some 6) := by kernel_rfl
theorem Tryz.infoTAB : (Tryz.prog.info? 55).map (fun i => (i.size, i.bytes, i.zero.map (fun z => z.cells.size))) = some (1, 8, some 1) := by kernel_rfl
theorem Tryz.infoMEM : (Tryz.prog.info? 59).map (fun i => (i.size, i.bytes, i.zero.map (fun z => z.cells.size))) = some (1, 8, some 1) := by kernel_rfl
theorem Tryz.infoGLOB : (Tryz.prog.info? 149).map (fun i => (i.size, i.bytes, i.zero.map (fun z => z.cells.size))) = some (5, 32, some 5) := by kernel_rfl
theorem Tryz.infoELEM : (Tryz.prog.info? 155).map (fun i => (i.size, i.bytes, i.zero.map (fun z => z.cells.size))) = some (2, 32, some 2) := by kernel_rfl
theorem Tryz.infoDATA : (Tryz.prog.info? 71).map (fun i => (i.size, i.bytes, i.zero.map (fun z => z.cells.size))) = some (1, 24, some 1) := by kernel_rfl
theorem Tryz.infoINST : (Tryz.prog.info? 95).map (fun i => (i.size, i.bytes, i.zero.map (fun z => z.cells.size))) = some (1, 8, some 1) := by kernel_rfl
section
variable {w : World} {sb B n : Nat} {cs : Array Value} {lv : Value} {F : Nat → Value}
set_option maxHeartbeats 1600000 in
theorem add_FUNC (k : Nat) (x0 x1 x2 x3 x4 x5 : Value) (h0 : (x0).oneCell' = true) (h1 : (x1).oneCell' = true) (h2 : (x2).oneCell' = true) (h3 : (x3).oneCell' = true) (h4 : (x4).oneCell' = true) (h5 : (x5).oneCell' = true) (hb : Blk w sb 132 cs) (hck : cs[k]? = some lv) (hown : Own w B 51 6 AnyV lv n F) (hn : n < 65536) (hB : B ≤ w.heap.size) :
    Calls Tryz.prog 86 #[.pointer (some ⟨sb, k, none⟩), .agg #[x0, x1, x2, x3, x4, x5]] w fun e w' => e = .returned (.tuple #[.int .i64 (n : Int), .int .i64 0]) ∧ ∃ lv', Blk w' sb 132 (cs.setIfInBounds k lv') ∧ Own w' B 51 6 AnyV lv' (n + 1) (after (n * 6) F (ecell #[x0, x1, x2, x3, x4, x5])) ∧ Kept (ST sb lv) w w' ∧ (lv'.ownBlock = lv.ownBlock ∨ ∃ g, lv'.ownBlock = some g ∧ w.heap.size ≤ g) := by
  obtain ⟨A, c, hlv, _, _, _⟩ := hown.out
  obtain ⟨z, hinfo, hzs⟩ := info_ex Tryz.infoFUNC
  have hne := hown.ne_blk hb (by decide)
  have hka : Kept S0 w (w.alloc (.cells #[x0, x1, x2, x3, x4, x5] 51)) := (Kept.refl S0 w).alloc _
  have hX := Blk.new w 51 #[x0, x1, x2, x3, x4, x5]
  have y0 : (w.alloc (.cells #[x0, x1, x2, x3, x4, x5] 51)).cell? ⟨w.heap.size, 0, none⟩ = some x0 := hX.cell 0
  have y1 : (w.alloc (.cells #[x0, x1, x2, x3, x4, x5] 51)).cell? ⟨w.heap.size, 1, none⟩ = some x1 := hX.cell 1
  have y2 : (w.alloc (.cells #[x0, x1, x2, x3, x4, x5] 51)).cell? ⟨w.heap.size, 2, none⟩ = some x2 := hX.cell 2
  have y3 : (w.alloc (.cells #[x0, x1, x2, x3, x4, x5] 51)).cell? ⟨w.heap.size, 3, none⟩ = some x3 := hX.cell 3
  have y4 : (w.alloc (.cells #[x0, x1, x2, x3, x4, x5] 51)).cell? ⟨w.heap.size, 4, none⟩ = some x4 := hX.cell 4
  have y5 : (w.alloc (.cells #[x0, x1, x2, x3, x4, x5] 51)).cell? ⟨w.heap.size, 5, none⟩ = some x5 := hX.cell 5
  subst hlv
  have hb1 := hka.blk hb (fun x => x)
  have hcell : (w.alloc (.cells #[x0, x1, x2, x3, x4, x5] 51)).cell? ⟨sb, k, none⟩ = some (.slice A n c) := by rw [hb1.cell, hck]
  have hkc : Kept S0 w ((w.alloc (.cells #[x0, x1, x2, x3, x4, x5] 51)).alloc (.cells #[x0, x1, x2, x3, x4, x5] 51)) := hka.alloc _
  have hb2 := hkc.blk hb (fun x => x)
  have hown2 := hown.kept hkc (fun _ _ x => x)
  have hB2 : B ≤ ((w.alloc (.cells #[x0, x1, x2, x3, x4, x5] 51)).alloc (.cells #[x0, x1, x2, x3, x4, x5] 51)).heap.size := Nat.le_trans hB hkc.size
  have hnw := Blk.new1 w (.cells #[x0, x1, x2, x3, x4, x5] 51) 51 #[x0, x1, x2, x3, x4, x5]
  have hsl2 : Sl ((w.alloc (.cells #[x0, x1, x2, x3, x4, x5] 51)).alloc (.cells #[x0, x1, x2, x3, x4, x5] 51)) (some ⟨w.heap.size + 1, 0, none⟩) (1 * 6) (ecell #[x0, x1, x2, x3, x4, x5]) := fun _ => ⟨w.heap.size + 1, 0, rfl, fun i hi => by
    match i, hi with
    | 0, _ => exact hnw.cell 0
    | 1, _ => exact hnw.cell 1
    | 2, _ => exact hnw.cell 2
    | 3, _ => exact hnw.cell 3
    | 4, _ => exact hnw.cell 4
    | 5, _ => exact hnw.cell 5
⟩
  have hone : ∀ j, j < 1 * 6 → (ecell #[x0, x1, x2, x3, x4, x5] j).oneCell' = true := fun i hi => by
    match i, hi with
    | 0, _ => exact h0
    | 1, _ => exact h1
    | 2, _ => exact h2
    | 3, _ => exact h3
    | 4, _ => exact h4
    | 5, _ => exact h5

  have HKC := Lib.hid hkc
  have HB2 := Lib.hid hb2
  have HNE := Lib.hid hne
  have HCK := Lib.hid hck
  have hnn : decide ((65536 : Int) ≤ (n : Int)) = false := decide_eq_false (by omega)
  have hlt2 := hb2.lt
  have hlt1 := hb.lt
  have un : IntKind.i64.wrap ((n : Int) + 1 - 1) = (n : Int) := by rw [IntWalk.i64_in _ (by omega)]; omega
  have hkl : k < cs.size := (Array.getElem?_eq_some_iff.1 hck).1
  have hfk : w.frozen? ⟨sb, k, none⟩ = false := hb.frozen k
  clear hka hb1 hown hne hb hck hnw hb2 hkc hX
  go_enter Tryz.func86, Tryz.ntmps86
  go_wp2_with fail
  go_region_law (refine step_append_all rfl (.tmp 16) (.tmp 18) 81 rfl B 51 z 6 88 Tryz.underlying81 hinfo hzs (by omega) AnyV (fun _ _ => trivial) _ n F rfl hown2 (some ⟨w.heap.size + 1, 0, none⟩) 1 1 (ecell #[x0, x1, x2, x3, x4, x5]) rfl hsl2 (fun h => by cases h) (fun _ _ => trivial) hone (by unfold maxLen; omega) (by omega) hB2 ?_; intro v' w' ha; obtain ⟨A', c', rfl, _, _, _⟩ := ha.own.out; have hbx := ha.grown.block sb hlt2 (fun e => HNE.out e.symm); have hb6 : Blk w' sb 132 cs := hbx.trans HB2.out; have d5 : w'.cell? ⟨sb, k, none⟩ = some (.slice A n c) := (hb6.cell k).trans HCK.out; have y5 := hb6.frozen k; have HA := Lib.hid (show Appended _ w' B 51 6 AnyV (.slice A n c) (.slice A' (n + 1) c') (n + 1) _ 1 from ha); have HB6 := Lib.hid hb6; clear ha hbx hb6 hown2 hsl2)
  go_wp2_with fail
  all_goals
    have HKW := Lib.hid (show Kept (ST sb (.slice A n c)) w w' from (HKC.out.of0 _).grown ⟨HA.out.grown.os, HA.out.grown.tape, HA.out.grown.output, HA.out.grown.size, HA.out.grown.block⟩ (fun g hg => .inl (.inr hg)))
    have HOW := Lib.hid HA.out.own
    have HBL := Lib.hid HA.out.block
    have HBS := Lib.hid (HB6.out.set_ k (.slice A' (n + 1) c'))
    have HNE2 := Lib.hid (HA.out.own.ne_blk HB6.out (by decide))
    have hs6 : (cs.setIfInBounds k (.slice A' (n + 1) c'))[k]? = some (.slice A' (n + 1) c') := by simp [hkl]
    have d6 := (HBS.out.cell k).trans hs6
    clear hs6
    go_wp2_with fail
    go_ret2
    refine ⟨by simp, _, HBS.out, HOW.out.kept ((Kept.refl (S1 sb) w').setCell (p := ⟨sb, k, none⟩) (.inl rfl) _) (fun g hg e => HNE2.out (by have e' : g = sb := e; rw [← e']; exact hg)), HKW.out.setCell (p := ⟨sb, k, none⟩) (.inl (.inl rfl)) _, ?_⟩
    rcases HBL.out with e | e
    · exact .inl e
    · exact .inr ⟨_, e, by have := HKC.out.size; exact this⟩
set_option maxHeartbeats 1600000 in
theorem add_TAB (k : Nat) (p0 : Option Addr)  (hb : Blk w sb 132 cs) (hck : cs[k]? = some lv) (hown : Own w B 55 1 AnyV lv n F) (hn : n < 65536) (hB : B ≤ w.heap.size) :
    Calls Tryz.prog 89 #[.pointer (some ⟨sb, k, none⟩), (.pointer p0)] w fun e w' => e = .returned (.tuple #[.int .i64 (n : Int), .int .i64 0]) ∧ ∃ lv', Blk w' sb 132 (cs.setIfInBounds k lv') ∧ Own w' B 55 1 AnyV lv' (n + 1) (after n F (ecell #[(.pointer p0)])) ∧ Kept (ST sb lv) w w' ∧ (lv'.ownBlock = lv.ownBlock ∨ ∃ g, lv'.ownBlock = some g ∧ w.heap.size ≤ g) := by
  obtain ⟨A, c, hlv, _, _, _⟩ := hown.out
  obtain ⟨z, hinfo, hzs⟩ := info_ex Tryz.infoTAB
  have hne := hown.ne_blk hb (by decide)
  have hka : Kept S0 w w := Kept.refl S0 w
  subst hlv
  have hb1 := hka.blk hb (fun x => x)
  have hcell : w.cell? ⟨sb, k, none⟩ = some (.slice A n c) := by rw [hb1.cell, hck]
  have hkc : Kept S0 w (w.alloc (.cells #[(.pointer p0)] 55)) := hka.alloc _
  have hb2 := hkc.blk hb (fun x => x)
  have hown2 := hown.kept hkc (fun _ _ x => x)
  have hB2 : B ≤ (w.alloc (.cells #[(.pointer p0)] 55)).heap.size := Nat.le_trans hB hkc.size
  have hnw := Blk.new w 55 #[(.pointer p0)]
  have hsl2 : Sl (w.alloc (.cells #[(.pointer p0)] 55)) (some ⟨w.heap.size, 0, none⟩) (1 * 1) (ecell #[(.pointer p0)]) := fun _ => ⟨w.heap.size, 0, rfl, fun i hi => by
    match i, hi with
    | 0, _ => exact hnw.cell 0
⟩
  have hone : ∀ j, j < 1 * 1 → (ecell #[(.pointer p0)] j).oneCell' = true := fun i hi => by
    match i, hi with
    | 0, _ => exact rfl

  have HKC := Lib.hid hkc
  have HB2 := Lib.hid hb2
  have HNE := Lib.hid hne
  have HCK := Lib.hid hck
  have hnn : decide ((65536 : Int) ≤ (n : Int)) = false := decide_eq_false (by omega)
  have hlt2 := hb2.lt
  have hlt1 := hb.lt
  have un : IntKind.i64.wrap ((n : Int) + 1 - 1) = (n : Int) := by rw [IntWalk.i64_in _ (by omega)]; omega
  have hkl : k < cs.size := (Array.getElem?_eq_some_iff.1 hck).1
  have hfk : w.frozen? ⟨sb, k, none⟩ = false := hb.frozen k
  clear hka hb1 hown hne hb hck hnw hb2 hkc
  go_enter Tryz.func89, Tryz.ntmps89
  go_wp2_with (at_builtin; refine wpList_append_all rfl (.tmp 16) (.tmp 18) 114 rfl B 55 z 1 8 Tryz.underlying114 hinfo hzs (by omega) AnyV (fun _ _ => trivial) _ n F rfl hown2 (some ⟨w.heap.size, 0, none⟩) 1 1 (ecell #[(.pointer p0)]) rfl hsl2 (fun h => by cases h) (fun _ _ => trivial) hone (by unfold maxLen; omega) (by omega) hB2 ?_)
  all_goals
    intro v' w' ha
    obtain ⟨A', c', rfl, _, _, _⟩ := ha.own.out
    have hbx := ha.grown.block sb hlt2 (fun e => HNE.out e.symm)
    have hb6 : Blk w' sb 132 cs := hbx.trans HB2.out
    have d5 : w'.cell? ⟨sb, k, none⟩ = some (.slice A n c) := (hb6.cell k).trans HCK.out
    have y5 := hb6.frozen k
    have HA := Lib.hid (show Appended _ w' B 55 1 AnyV (.slice A n c) (.slice A' (n + 1) c') (n + 1) _ 1 from ha)
    have HB6 := Lib.hid hb6
    clear ha hbx hb6 hown2 hsl2
    go_wp2_with fail
    have HKW := Lib.hid (show Kept (ST sb (.slice A n c)) w w' from (HKC.out.of0 _).grown ⟨HA.out.grown.os, HA.out.grown.tape, HA.out.grown.output, HA.out.grown.size, HA.out.grown.block⟩ (fun g hg => .inl (.inr hg)))
    have HOW := Lib.hid HA.out.own
    have HBL := Lib.hid HA.out.block
    have HBS := Lib.hid (HB6.out.set_ k (.slice A' (n + 1) c'))
    have HNE2 := Lib.hid (HA.out.own.ne_blk HB6.out (by decide))
    have hs6 : (cs.setIfInBounds k (.slice A' (n + 1) c'))[k]? = some (.slice A' (n + 1) c') := by simp [hkl]
    have d6 := (HBS.out.cell k).trans hs6
    clear hs6
    go_wp2_with fail
    go_ret2
    refine ⟨by simp, _, HBS.out, HOW.out.kept ((Kept.refl (S1 sb) w').setCell (p := ⟨sb, k, none⟩) (.inl rfl) _) (fun g hg e => HNE2.out (by have e' : g = sb := e; rw [← e']; exact hg)), HKW.out.setCell (p := ⟨sb, k, none⟩) (.inl (.inl rfl)) _, ?_⟩
    rcases HBL.out with e | e
    · exact .inl e
    · exact .inr ⟨_, e, by have := HKC.out.size; exact this⟩
set_option maxHeartbeats 1600000 in
theorem add_MEM (k : Nat) (p0 : Option Addr)  (hb : Blk w sb 132 cs) (hck : cs[k]? = some lv) (hown : Own w B 59 1 AnyV lv n F) (hn : n < 65536) (hB : B ≤ w.heap.size) :
    Calls Tryz.prog 92 #[.pointer (some ⟨sb, k, none⟩), (.pointer p0)] w fun e w' => e = .returned (.tuple #[.int .i64 (n : Int), .int .i64 0]) ∧ ∃ lv', Blk w' sb 132 (cs.setIfInBounds k lv') ∧ Own w' B 59 1 AnyV lv' (n + 1) (after n F (ecell #[(.pointer p0)])) ∧ Kept (ST sb lv) w w' ∧ (lv'.ownBlock = lv.ownBlock ∨ ∃ g, lv'.ownBlock = some g ∧ w.heap.size ≤ g) := by
  obtain ⟨A, c, hlv, _, _, _⟩ := hown.out
  obtain ⟨z, hinfo, hzs⟩ := info_ex Tryz.infoMEM
  have hne := hown.ne_blk hb (by decide)
  have hka : Kept S0 w w := Kept.refl S0 w
  subst hlv
  have hb1 := hka.blk hb (fun x => x)
  have hcell : w.cell? ⟨sb, k, none⟩ = some (.slice A n c) := by rw [hb1.cell, hck]
  have hkc : Kept S0 w (w.alloc (.cells #[(.pointer p0)] 59)) := hka.alloc _
  have hb2 := hkc.blk hb (fun x => x)
  have hown2 := hown.kept hkc (fun _ _ x => x)
  have hB2 : B ≤ (w.alloc (.cells #[(.pointer p0)] 59)).heap.size := Nat.le_trans hB hkc.size
  have hnw := Blk.new w 59 #[(.pointer p0)]
  have hsl2 : Sl (w.alloc (.cells #[(.pointer p0)] 59)) (some ⟨w.heap.size, 0, none⟩) (1 * 1) (ecell #[(.pointer p0)]) := fun _ => ⟨w.heap.size, 0, rfl, fun i hi => by
    match i, hi with
    | 0, _ => exact hnw.cell 0
⟩
  have hone : ∀ j, j < 1 * 1 → (ecell #[(.pointer p0)] j).oneCell' = true := fun i hi => by
    match i, hi with
    | 0, _ => exact rfl

  have HKC := Lib.hid hkc
  have HB2 := Lib.hid hb2
  have HNE := Lib.hid hne
  have HCK := Lib.hid hck
  have hnn : decide ((65536 : Int) ≤ (n : Int)) = false := decide_eq_false (by omega)
  have hlt2 := hb2.lt
  have hlt1 := hb.lt
  have un : IntKind.i64.wrap ((n : Int) + 1 - 1) = (n : Int) := by rw [IntWalk.i64_in _ (by omega)]; omega
  have hkl : k < cs.size := (Array.getElem?_eq_some_iff.1 hck).1
  have hfk : w.frozen? ⟨sb, k, none⟩ = false := hb.frozen k
  clear hka hb1 hown hne hb hck hnw hb2 hkc
  go_enter Tryz.func92, Tryz.ntmps92
  go_wp2_with (at_builtin; refine wpList_append_all rfl (.tmp 16) (.tmp 18) 117 rfl B 59 z 1 8 Tryz.underlying117 hinfo hzs (by omega) AnyV (fun _ _ => trivial) _ n F rfl hown2 (some ⟨w.heap.size, 0, none⟩) 1 1 (ecell #[(.pointer p0)]) rfl hsl2 (fun h => by cases h) (fun _ _ => trivial) hone (by unfold maxLen; omega) (by omega) hB2 ?_)
  all_goals
    intro v' w' ha
    obtain ⟨A', c', rfl, _, _, _⟩ := ha.own.out
    have hbx := ha.grown.block sb hlt2 (fun e => HNE.out e.symm)
    have hb6 : Blk w' sb 132 cs := hbx.trans HB2.out
    have d5 : w'.cell? ⟨sb, k, none⟩ = some (.slice A n c) := (hb6.cell k).trans HCK.out
    have y5 := hb6.frozen k
    have HA := Lib.hid (show Appended _ w' B 59 1 AnyV (.slice A n c) (.slice A' (n + 1) c') (n + 1) _ 1 from ha)
    have HB6 := Lib.hid hb6
    clear ha hbx hb6 hown2 hsl2
    go_wp2_with fail
    have HKW := Lib.hid (show Kept (ST sb (.slice A n c)) w w' from (HKC.out.of0 _).grown ⟨HA.out.grown.os, HA.out.grown.tape, HA.out.grown.output, HA.out.grown.size, HA.out.grown.block⟩ (fun g hg => .inl (.inr hg)))
    have HOW := Lib.hid HA.out.own
    have HBL := Lib.hid HA.out.block
    have HBS := Lib.hid (HB6.out.set_ k (.slice A' (n + 1) c'))
    have HNE2 := Lib.hid (HA.out.own.ne_blk HB6.out (by decide))
    have hs6 : (cs.setIfInBounds k (.slice A' (n + 1) c'))[k]? = some (.slice A' (n + 1) c') := by simp [hkl]
    have d6 := (HBS.out.cell k).trans hs6
    clear hs6
    go_wp2_with fail
    go_ret2
    refine ⟨by simp, _, HBS.out, HOW.out.kept ((Kept.refl (S1 sb) w').setCell (p := ⟨sb, k, none⟩) (.inl rfl) _) (fun g hg e => HNE2.out (by have e' : g = sb := e; rw [← e']; exact hg)), HKW.out.setCell (p := ⟨sb, k, none⟩) (.inl (.inl rfl)) _, ?_⟩
    rcases HBL.out with e | e
    · exact .inl e
    · exact .inr ⟨_, e, by have := HKC.out.size; exact this⟩
set_option maxHeartbeats 1600000 in
theorem add_GLOB (k : Nat) (x0 x1 x2 x3 x4 : Value) (h0 : (x0).oneCell' = true) (h1 : (x1).oneCell' = true) (h2 : (x2).oneCell' = true) (h3 : (x3).oneCell' = true) (h4 : (x4).oneCell' = true) (hb : Blk w sb 132 cs) (hck : cs[k]? = some lv) (hown : Own w B 149 5 AnyV lv n F) (hn : n < 65536) (hB : B ≤ w.heap.size) :
    Calls Tryz.prog 94 #[.pointer (some ⟨sb, k, none⟩), .agg #[x0, x1, x2, x3, x4]] w fun e w' => e = .returned (.tuple #[.int .i64 (n : Int), .int .i64 0]) ∧ ∃ lv', Blk w' sb 132 (cs.setIfInBounds k lv') ∧ Own w' B 149 5 AnyV lv' (n + 1) (after (n * 5) F (ecell #[x0, x1, x2, x3, x4])) ∧ Kept (ST sb lv) w w' ∧ (lv'.ownBlock = lv.ownBlock ∨ ∃ g, lv'.ownBlock = some g ∧ w.heap.size ≤ g) := by
  obtain ⟨A, c, hlv, _, _, _⟩ := hown.out
  obtain ⟨z, hinfo, hzs⟩ := info_ex Tryz.infoGLOB
  have hne := hown.ne_blk hb (by decide)
  have hka : Kept S0 w (w.alloc (.cells #[x0, x1, x2, x3, x4] 149)) := (Kept.refl S0 w).alloc _
  have hX := Blk.new w 149 #[x0, x1, x2, x3, x4]
  have y0 : (w.alloc (.cells #[x0, x1, x2, x3, x4] 149)).cell? ⟨w.heap.size, 0, none⟩ = some x0 := hX.cell 0
  have y1 : (w.alloc (.cells #[x0, x1, x2, x3, x4] 149)).cell? ⟨w.heap.size, 1, none⟩ = some x1 := hX.cell 1
  have y2 : (w.alloc (.cells #[x0, x1, x2, x3, x4] 149)).cell? ⟨w.heap.size, 2, none⟩ = some x2 := hX.cell 2
  have y3 : (w.alloc (.cells #[x0, x1, x2, x3, x4] 149)).cell? ⟨w.heap.size, 3, none⟩ = some x3 := hX.cell 3
  have y4 : (w.alloc (.cells #[x0, x1, x2, x3, x4] 149)).cell? ⟨w.heap.size, 4, none⟩ = some x4 := hX.cell 4
  subst hlv
  have hb1 := hka.blk hb (fun x => x)
  have hcell : (w.alloc (.cells #[x0, x1, x2, x3, x4] 149)).cell? ⟨sb, k, none⟩ = some (.slice A n c) := by rw [hb1.cell, hck]
  have hkc : Kept S0 w ((w.alloc (.cells #[x0, x1, x2, x3, x4] 149)).alloc (.cells #[x0, x1, x2, x3, x4] 149)) := hka.alloc _
  have hb2 := hkc.blk hb (fun x => x)
  have hown2 := hown.kept hkc (fun _ _ x => x)
  have hB2 : B ≤ ((w.alloc (.cells #[x0, x1, x2, x3, x4] 149)).alloc (.cells #[x0, x1, x2, x3, x4] 149)).heap.size := Nat.le_trans hB hkc.size
  have hnw := Blk.new1 w (.cells #[x0, x1, x2, x3, x4] 149) 149 #[x0, x1, x2, x3, x4]
  have hsl2 : Sl ((w.alloc (.cells #[x0, x1, x2, x3, x4] 149)).alloc (.cells #[x0, x1, x2, x3, x4] 149)) (some ⟨w.heap.size + 1, 0, none⟩) (1 * 5) (ecell #[x0, x1, x2, x3, x4]) := fun _ => ⟨w.heap.size + 1, 0, rfl, fun i hi => by
    match i, hi with
    | 0, _ => exact hnw.cell 0
    | 1, _ => exact hnw.cell 1
    | 2, _ => exact hnw.cell 2
    | 3, _ => exact hnw.cell 3
    | 4, _ => exact hnw.cell 4
⟩
  have hone : ∀ j, j < 1 * 5 → (ecell #[x0, x1, x2, x3, x4] j).oneCell' = true := fun i hi => by
    match i, hi with
    | 0, _ => exact h0
    | 1, _ => exact h1
    | 2, _ => exact h2
    | 3, _ => exact h3
    | 4, _ => exact h4

  have HKC := Lib.hid hkc
  have HB2 := Lib.hid hb2
  have HNE := Lib.hid hne
  have HCK := Lib.hid hck
  have hnn : decide ((65536 : Int) ≤ (n : Int)) = false := decide_eq_false (by omega)
  have hlt2 := hb2.lt
  have hlt1 := hb.lt
  have un : IntKind.i64.wrap ((n : Int) + 1 - 1) = (n : Int) := by rw [IntWalk.i64_in _ (by omega)]; omega
  have hkl : k < cs.size := (Array.getElem?_eq_some_iff.1 hck).1
  have hfk : w.frozen? ⟨sb, k, none⟩ = false := hb.frozen k
  clear hka hb1 hown hne hb hck hnw hb2 hkc hX
  go_enter Tryz.func94, Tryz.ntmps94
  go_wp2_with fail
  go_region_law (refine step_append_all rfl (.tmp 16) (.tmp 18) 120 rfl B 149 z 5 32 Tryz.underlying120 hinfo hzs (by omega) AnyV (fun _ _ => trivial) _ n F rfl hown2 (some ⟨w.heap.size + 1, 0, none⟩) 1 1 (ecell #[x0, x1, x2, x3, x4]) rfl hsl2 (fun h => by cases h) (fun _ _ => trivial) hone (by unfold maxLen; omega) (by omega) hB2 ?_; intro v' w' ha; obtain ⟨A', c', rfl, _, _, _⟩ := ha.own.out; have hbx := ha.grown.block sb hlt2 (fun e => HNE.out e.symm); have hb6 : Blk w' sb 132 cs := hbx.trans HB2.out; have d5 : w'.cell? ⟨sb, k, none⟩ = some (.slice A n c) := (hb6.cell k).trans HCK.out; have y5 := hb6.frozen k; have HA := Lib.hid (show Appended _ w' B 149 5 AnyV (.slice A n c) (.slice A' (n + 1) c') (n + 1) _ 1 from ha); have HB6 := Lib.hid hb6; clear ha hbx hb6 hown2 hsl2)
  go_wp2_with fail
  all_goals
    have HKW := Lib.hid (show Kept (ST sb (.slice A n c)) w w' from (HKC.out.of0 _).grown ⟨HA.out.grown.os, HA.out.grown.tape, HA.out.grown.output, HA.out.grown.size, HA.out.grown.block⟩ (fun g hg => .inl (.inr hg)))
    have HOW := Lib.hid HA.out.own
    have HBL := Lib.hid HA.out.block
    have HBS := Lib.hid (HB6.out.set_ k (.slice A' (n + 1) c'))
    have HNE2 := Lib.hid (HA.out.own.ne_blk HB6.out (by decide))
    have hs6 : (cs.setIfInBounds k (.slice A' (n + 1) c'))[k]? = some (.slice A' (n + 1) c') := by simp [hkl]
    have d6 := (HBS.out.cell k).trans hs6
    clear hs6
    go_wp2_with fail
    go_ret2
    refine ⟨by simp, _, HBS.out, HOW.out.kept ((Kept.refl (S1 sb) w').setCell (p := ⟨sb, k, none⟩) (.inl rfl) _) (fun g hg e => HNE2.out (by have e' : g = sb := e; rw [← e']; exact hg)), HKW.out.setCell (p := ⟨sb, k, none⟩) (.inl (.inl rfl)) _, ?_⟩
    rcases HBL.out with e | e
    · exact .inl e
    · exact .inr ⟨_, e, by have := HKC.out.size; exact this⟩
set_option maxHeartbeats 1600000 in
theorem add_ELEM (k : Nat) (x0 x1 : Value) (h0 : (x0).oneCell' = true) (h1 : (x1).oneCell' = true) (hb : Blk w sb 132 cs) (hck : cs[k]? = some lv) (hown : Own w B 155 2 AnyV lv n F) (hn : n < 65536) (hB : B ≤ w.heap.size) :
    Calls Tryz.prog 97 #[.pointer (some ⟨sb, k, none⟩), .agg #[x0, x1]] w fun e w' => e = .returned (.tuple #[.int .i64 (n : Int), .int .i64 0]) ∧ ∃ lv', Blk w' sb 132 (cs.setIfInBounds k lv') ∧ Own w' B 155 2 AnyV lv' (n + 1) (after (n * 2) F (ecell #[x0, x1])) ∧ Kept (ST sb lv) w w' ∧ (lv'.ownBlock = lv.ownBlock ∨ ∃ g, lv'.ownBlock = some g ∧ w.heap.size ≤ g) := by
  obtain ⟨A, c, hlv, _, _, _⟩ := hown.out
  obtain ⟨z, hinfo, hzs⟩ := info_ex Tryz.infoELEM
  have hne := hown.ne_blk hb (by decide)
  have hka : Kept S0 w (w.alloc (.cells #[x0, x1] 155)) := (Kept.refl S0 w).alloc _
  have hX := Blk.new w 155 #[x0, x1]
  have y0 : (w.alloc (.cells #[x0, x1] 155)).cell? ⟨w.heap.size, 0, none⟩ = some x0 := hX.cell 0
  have y1 : (w.alloc (.cells #[x0, x1] 155)).cell? ⟨w.heap.size, 1, none⟩ = some x1 := hX.cell 1
  subst hlv
  have hb1 := hka.blk hb (fun x => x)
  have hcell : (w.alloc (.cells #[x0, x1] 155)).cell? ⟨sb, k, none⟩ = some (.slice A n c) := by rw [hb1.cell, hck]
  have hkc : Kept S0 w ((w.alloc (.cells #[x0, x1] 155)).alloc (.cells #[x0, x1] 155)) := hka.alloc _
  have hb2 := hkc.blk hb (fun x => x)
  have hown2 := hown.kept hkc (fun _ _ x => x)
  have hB2 : B ≤ ((w.alloc (.cells #[x0, x1] 155)).alloc (.cells #[x0, x1] 155)).heap.size := Nat.le_trans hB hkc.size
  have hnw := Blk.new1 w (.cells #[x0, x1] 155) 155 #[x0, x1]
  have hsl2 : Sl ((w.alloc (.cells #[x0, x1] 155)).alloc (.cells #[x0, x1] 155)) (some ⟨w.heap.size + 1, 0, none⟩) (1 * 2) (ecell #[x0, x1]) := fun _ => ⟨w.heap.size + 1, 0, rfl, fun i hi => by
    match i, hi with
    | 0, _ => exact hnw.cell 0
    | 1, _ => exact hnw.cell 1
⟩
  have hone : ∀ j, j < 1 * 2 → (ecell #[x0, x1] j).oneCell' = true := fun i hi => by
    match i, hi with
    | 0, _ => exact h0
    | 1, _ => exact h1

  have HKC := Lib.hid hkc
  have HB2 := Lib.hid hb2
  have HNE := Lib.hid hne
  have HCK := Lib.hid hck
  have hnn : decide ((65536 : Int) ≤ (n : Int)) = false := decide_eq_false (by omega)
  have hlt2 := hb2.lt
  have hlt1 := hb.lt
  have un : IntKind.i64.wrap ((n : Int) + 1 - 1) = (n : Int) := by rw [IntWalk.i64_in _ (by omega)]; omega
  have hkl : k < cs.size := (Array.getElem?_eq_some_iff.1 hck).1
  have hfk : w.frozen? ⟨sb, k, none⟩ = false := hb.frozen k
  clear hka hb1 hown hne hb hck hnw hb2 hkc hX
  go_enter Tryz.func97, Tryz.ntmps97
  go_wp2_with fail
  go_region_law (refine step_append_all rfl (.tmp 16) (.tmp 18) 123 rfl B 155 z 2 32 Tryz.underlying123 hinfo hzs (by omega) AnyV (fun _ _ => trivial) _ n F rfl hown2 (some ⟨w.heap.size + 1, 0, none⟩) 1 1 (ecell #[x0, x1]) rfl hsl2 (fun h => by cases h) (fun _ _ => trivial) hone (by unfold maxLen; omega) (by omega) hB2 ?_; intro v' w' ha; obtain ⟨A', c', rfl, _, _, _⟩ := ha.own.out; have hbx := ha.grown.block sb hlt2 (fun e => HNE.out e.symm); have hb6 : Blk w' sb 132 cs := hbx.trans HB2.out; have d5 : w'.cell? ⟨sb, k, none⟩ = some (.slice A n c) := (hb6.cell k).trans HCK.out; have y5 := hb6.frozen k; have HA := Lib.hid (show Appended _ w' B 155 2 AnyV (.slice A n c) (.slice A' (n + 1) c') (n + 1) _ 1 from ha); have HB6 := Lib.hid hb6; clear ha hbx hb6 hown2 hsl2)
  go_wp2_with fail
  all_goals
    have HKW := Lib.hid (show Kept (ST sb (.slice A n c)) w w' from (HKC.out.of0 _).grown ⟨HA.out.grown.os, HA.out.grown.tape, HA.out.grown.output, HA.out.grown.size, HA.out.grown.block⟩ (fun g hg => .inl (.inr hg)))
    have HOW := Lib.hid HA.out.own
    have HBL := Lib.hid HA.out.block
    have HBS := Lib.hid (HB6.out.set_ k (.slice A' (n + 1) c'))
    have HNE2 := Lib.hid (HA.out.own.ne_blk HB6.out (by decide))
    have hs6 : (cs.setIfInBounds k (.slice A' (n + 1) c'))[k]? = some (.slice A' (n + 1) c') := by simp [hkl]
    have d6 := (HBS.out.cell k).trans hs6
    clear hs6
    go_wp2_with fail
    go_ret2
    refine ⟨by simp, _, HBS.out, HOW.out.kept ((Kept.refl (S1 sb) w').setCell (p := ⟨sb, k, none⟩) (.inl rfl) _) (fun g hg e => HNE2.out (by have e' : g = sb := e; rw [← e']; exact hg)), HKW.out.setCell (p := ⟨sb, k, none⟩) (.inl (.inl rfl)) _, ?_⟩
    rcases HBL.out with e | e
    · exact .inl e
    · exact .inr ⟨_, e, by have := HKC.out.size; exact this⟩
set_option maxHeartbeats 1600000 in
theorem add_DATA (k : Nat) (p0 : Option Addr) (p1 p2 : Nat)  (hb : Blk w sb 132 cs) (hck : cs[k]? = some lv) (hown : Own w B 71 1 AnyV lv n F) (hn : n < 65536) (hB : B ≤ w.heap.size) :
    Calls Tryz.prog 101 #[.pointer (some ⟨sb, k, none⟩), (.slice p0 p1 p2)] w fun e w' => e = .returned (.tuple #[.int .i64 (n : Int), .int .i64 0]) ∧ ∃ lv', Blk w' sb 132 (cs.setIfInBounds k lv') ∧ Own w' B 71 1 AnyV lv' (n + 1) (after n F (ecell #[(.slice p0 p1 p2)])) ∧ Kept (ST sb lv) w w' ∧ (lv'.ownBlock = lv.ownBlock ∨ ∃ g, lv'.ownBlock = some g ∧ w.heap.size ≤ g) := by
  obtain ⟨A, c, hlv, _, _, _⟩ := hown.out
  obtain ⟨z, hinfo, hzs⟩ := info_ex Tryz.infoDATA
  have hne := hown.ne_blk hb (by decide)
  have hka : Kept S0 w w := Kept.refl S0 w
  subst hlv
  have hb1 := hka.blk hb (fun x => x)
  have hcell : w.cell? ⟨sb, k, none⟩ = some (.slice A n c) := by rw [hb1.cell, hck]
  have hkc : Kept S0 w (w.alloc (.cells #[(.slice p0 p1 p2)] 71)) := hka.alloc _
  have hb2 := hkc.blk hb (fun x => x)
  have hown2 := hown.kept hkc (fun _ _ x => x)
  have hB2 : B ≤ (w.alloc (.cells #[(.slice p0 p1 p2)] 71)).heap.size := Nat.le_trans hB hkc.size
  have hnw := Blk.new w 71 #[(.slice p0 p1 p2)]
  have hsl2 : Sl (w.alloc (.cells #[(.slice p0 p1 p2)] 71)) (some ⟨w.heap.size, 0, none⟩) (1 * 1) (ecell #[(.slice p0 p1 p2)]) := fun _ => ⟨w.heap.size, 0, rfl, fun i hi => by
    match i, hi with
    | 0, _ => exact hnw.cell 0
⟩
  have hone : ∀ j, j < 1 * 1 → (ecell #[(.slice p0 p1 p2)] j).oneCell' = true := fun i hi => by
    match i, hi with
    | 0, _ => exact rfl

  have HKC := Lib.hid hkc
  have HB2 := Lib.hid hb2
  have HNE := Lib.hid hne
  have HCK := Lib.hid hck
  have hnn : decide ((65536 : Int) ≤ (n : Int)) = false := decide_eq_false (by omega)
  have hlt2 := hb2.lt
  have hlt1 := hb.lt
  have un : IntKind.i64.wrap ((n : Int) + 1 - 1) = (n : Int) := by rw [IntWalk.i64_in _ (by omega)]; omega
  have hkl : k < cs.size := (Array.getElem?_eq_some_iff.1 hck).1
  have hfk : w.frozen? ⟨sb, k, none⟩ = false := hb.frozen k
  clear hka hb1 hown hne hb hck hnw hb2 hkc
  go_enter Tryz.func101, Tryz.ntmps101
  go_wp2_with (at_builtin; refine wpList_append_all rfl (.tmp 16) (.tmp 18) 86 rfl B 71 z 1 24 Tryz.underlying86 hinfo hzs (by omega) AnyV (fun _ _ => trivial) _ n F rfl hown2 (some ⟨w.heap.size, 0, none⟩) 1 1 (ecell #[(.slice p0 p1 p2)]) rfl hsl2 (fun h => by cases h) (fun _ _ => trivial) hone (by unfold maxLen; omega) (by omega) hB2 ?_)
  all_goals
    intro v' w' ha
    obtain ⟨A', c', rfl, _, _, _⟩ := ha.own.out
    have hbx := ha.grown.block sb hlt2 (fun e => HNE.out e.symm)
    have hb6 : Blk w' sb 132 cs := hbx.trans HB2.out
    have d5 : w'.cell? ⟨sb, k, none⟩ = some (.slice A n c) := (hb6.cell k).trans HCK.out
    have y5 := hb6.frozen k
    have HA := Lib.hid (show Appended _ w' B 71 1 AnyV (.slice A n c) (.slice A' (n + 1) c') (n + 1) _ 1 from ha)
    have HB6 := Lib.hid hb6
    clear ha hbx hb6 hown2 hsl2
    go_wp2_with fail
    have HKW := Lib.hid (show Kept (ST sb (.slice A n c)) w w' from (HKC.out.of0 _).grown ⟨HA.out.grown.os, HA.out.grown.tape, HA.out.grown.output, HA.out.grown.size, HA.out.grown.block⟩ (fun g hg => .inl (.inr hg)))
    have HOW := Lib.hid HA.out.own
    have HBL := Lib.hid HA.out.block
    have HBS := Lib.hid (HB6.out.set_ k (.slice A' (n + 1) c'))
    have HNE2 := Lib.hid (HA.out.own.ne_blk HB6.out (by decide))
    have hs6 : (cs.setIfInBounds k (.slice A' (n + 1) c'))[k]? = some (.slice A' (n + 1) c') := by simp [hkl]
    have d6 := (HBS.out.cell k).trans hs6
    clear hs6
    go_wp2_with fail
    go_ret2
    refine ⟨by simp, _, HBS.out, HOW.out.kept ((Kept.refl (S1 sb) w').setCell (p := ⟨sb, k, none⟩) (.inl rfl) _) (fun g hg e => HNE2.out (by have e' : g = sb := e; rw [← e']; exact hg)), HKW.out.setCell (p := ⟨sb, k, none⟩) (.inl (.inl rfl)) _, ?_⟩
    rcases HBL.out with e | e
    · exact .inl e
    · exact .inr ⟨_, e, by have := HKC.out.size; exact this⟩
set_option maxHeartbeats 1600000 in
theorem add_INST (k : Nat) (p0 : Option Addr)  (hb : Blk w sb 132 cs) (hck : cs[k]? = some lv) (hown : Own w B 95 1 AnyV lv n F) (hn : n < 65536) (hB : B ≤ w.heap.size) :
    Calls Tryz.prog 108 #[.pointer (some ⟨sb, k, none⟩), (.pointer p0)] w fun e w' => e = .returned (.tuple #[.int .i64 (n : Int), .int .i64 0]) ∧ ∃ lv', Blk w' sb 132 (cs.setIfInBounds k lv') ∧ Own w' B 95 1 AnyV lv' (n + 1) (after n F (ecell #[(.pointer p0)])) ∧ Kept (ST sb lv) w w' ∧ (lv'.ownBlock = lv.ownBlock ∨ ∃ g, lv'.ownBlock = some g ∧ w.heap.size ≤ g) := by
  obtain ⟨A, c, hlv, _, _, _⟩ := hown.out
  obtain ⟨z, hinfo, hzs⟩ := info_ex Tryz.infoINST
  have hne := hown.ne_blk hb (by decide)
  have hka : Kept S0 w w := Kept.refl S0 w
  subst hlv
  have hb1 := hka.blk hb (fun x => x)
  have hcell : w.cell? ⟨sb, k, none⟩ = some (.slice A n c) := by rw [hb1.cell, hck]
  have hkc : Kept S0 w (w.alloc (.cells #[(.pointer p0)] 95)) := hka.alloc _
  have hb2 := hkc.blk hb (fun x => x)
  have hown2 := hown.kept hkc (fun _ _ x => x)
  have hB2 : B ≤ (w.alloc (.cells #[(.pointer p0)] 95)).heap.size := Nat.le_trans hB hkc.size
  have hnw := Blk.new w 95 #[(.pointer p0)]
  have hsl2 : Sl (w.alloc (.cells #[(.pointer p0)] 95)) (some ⟨w.heap.size, 0, none⟩) (1 * 1) (ecell #[(.pointer p0)]) := fun _ => ⟨w.heap.size, 0, rfl, fun i hi => by
    match i, hi with
    | 0, _ => exact hnw.cell 0
⟩
  have hone : ∀ j, j < 1 * 1 → (ecell #[(.pointer p0)] j).oneCell' = true := fun i hi => by
    match i, hi with
    | 0, _ => exact rfl

  have HKC := Lib.hid hkc
  have HB2 := Lib.hid hb2
  have HNE := Lib.hid hne
  have HCK := Lib.hid hck
  have hnn : decide ((65536 : Int) ≤ (n : Int)) = false := decide_eq_false (by omega)
  have hlt2 := hb2.lt
  have hlt1 := hb.lt
  have un : IntKind.i64.wrap ((n : Int) + 1 - 1) = (n : Int) := by rw [IntWalk.i64_in _ (by omega)]; omega
  have hkl : k < cs.size := (Array.getElem?_eq_some_iff.1 hck).1
  have hfk : w.frozen? ⟨sb, k, none⟩ = false := hb.frozen k
  clear hka hb1 hown hne hb hck hnw hb2 hkc
  go_enter Tryz.func108, Tryz.ntmps108
  go_wp2_with (at_builtin; refine wpList_append_all rfl (.tmp 16) (.tmp 18) 128 rfl B 95 z 1 8 Tryz.underlying128 hinfo hzs (by omega) AnyV (fun _ _ => trivial) _ n F rfl hown2 (some ⟨w.heap.size, 0, none⟩) 1 1 (ecell #[(.pointer p0)]) rfl hsl2 (fun h => by cases h) (fun _ _ => trivial) hone (by unfold maxLen; omega) (by omega) hB2 ?_)
  all_goals
    intro v' w' ha
    obtain ⟨A', c', rfl, _, _, _⟩ := ha.own.out
    have hbx := ha.grown.block sb hlt2 (fun e => HNE.out e.symm)
    have hb6 : Blk w' sb 132 cs := hbx.trans HB2.out
    have d5 : w'.cell? ⟨sb, k, none⟩ = some (.slice A n c) := (hb6.cell k).trans HCK.out
    have y5 := hb6.frozen k
    have HA := Lib.hid (show Appended _ w' B 95 1 AnyV (.slice A n c) (.slice A' (n + 1) c') (n + 1) _ 1 from ha)
    have HB6 := Lib.hid hb6
    clear ha hbx hb6 hown2 hsl2
    go_wp2_with fail
    have HKW := Lib.hid (show Kept (ST sb (.slice A n c)) w w' from (HKC.out.of0 _).grown ⟨HA.out.grown.os, HA.out.grown.tape, HA.out.grown.output, HA.out.grown.size, HA.out.grown.block⟩ (fun g hg => .inl (.inr hg)))
    have HOW := Lib.hid HA.out.own
    have HBL := Lib.hid HA.out.block
    have HBS := Lib.hid (HB6.out.set_ k (.slice A' (n + 1) c'))
    have HNE2 := Lib.hid (HA.out.own.ne_blk HB6.out (by decide))
    have hs6 : (cs.setIfInBounds k (.slice A' (n + 1) c'))[k]? = some (.slice A' (n + 1) c') := by simp [hkl]
    have d6 := (HBS.out.cell k).trans hs6
    clear hs6
    go_wp2_with fail
    go_ret2
    refine ⟨by simp, _, HBS.out, HOW.out.kept ((Kept.refl (S1 sb) w').setCell (p := ⟨sb, k, none⟩) (.inl rfl) _) (fun g hg e => HNE2.out (by have e' : g = sb := e; rw [← e']; exact hg)), HKW.out.setCell (p := ⟨sb, k, none⟩) (.inl (.inl rfl)) _, ?_⟩
    rcases HBL.out with e | e
    · exact .inl e
    · exact .inr ⟨_, e, by have := HKC.out.size; exact this⟩
end
end Go.Proofs.YtlnkdnmeikpckaaGreat
namespace Go.Proofs.YtlnkdnmeikpckaaGreat
open Go.RowKit
set_option maxRecDepth 100000
section
variable {w : World} {sb n c k : Nat}
set_option maxHeartbeats 800000 in
theorem at_FUNC_in (a g : Nat) (hc : w.cell? ⟨sb, k, none⟩ = some (.slice (some ⟨g, 0, none⟩) n c)) (_hn : n ≤ 65536) (ha : a < n) :
    Calls Tryz.prog 40 #[.pointer (some ⟨sb, k, none⟩), .int .i64 (a : Int)] w fun e w' => e = .returned (.pointer (some ⟨g, a * 6, none⟩)) ∧ w = w' := by
  have h1 : ((a : Int) < 0) = False := eq_false (by omega)
  have h2 : decide ((n : Int) ≤ (a : Int)) = false := decide_eq_false (by omega)
  go_enter Tryz.func40, Tryz.ntmps40
  go_wp2_with fail
  go_ret
  exact ⟨by simp, rfl⟩
set_option maxHeartbeats 800000 in
theorem at_FUNC_out (a : Int) (A : Option Addr) (hc : w.cell? ⟨sb, k, none⟩ = some (.slice A n c)) (_hn : n ≤ 65536) (ha : a < 0 ∨ (n : Int) ≤ a) :
    Calls Tryz.prog 40 #[.pointer (some ⟨sb, k, none⟩), .int .i64 a] w fun e w' => e = .returned (.pointer none) ∧ w = w' := by
  by_cases h0 : a < 0
  · have h1 : decide (a < 0) = true := decide_eq_true h0
    clear ha
    go_enter Tryz.func40, Tryz.ntmps40
    go_wp2_with fail
    go_ret
    exact ⟨rfl, rfl⟩
  · have h1 : decide (a < 0) = false := decide_eq_false h0
    have h2 : decide ((n : Int) ≤ a) = true := decide_eq_true (by omega)
    clear ha h0
    go_enter Tryz.func40, Tryz.ntmps40
    go_wp2_with fail
    go_ret
    exact ⟨rfl, rfl⟩
set_option maxHeartbeats 800000 in
theorem at_TAB_in (a g : Nat) (hc : w.cell? ⟨sb, k, none⟩ = some (.slice (some ⟨g, 0, none⟩) n c)) (_hn : n ≤ 65536) (ha : a < n) :
    Calls Tryz.prog 43 #[.pointer (some ⟨sb, k, none⟩), .int .i64 (a : Int)] w fun e w' => e = .returned (.pointer (some ⟨g, a, none⟩)) ∧ w = w' := by
  have h1 : ((a : Int) < 0) = False := eq_false (by omega)
  have h2 : decide ((n : Int) ≤ (a : Int)) = false := decide_eq_false (by omega)
  go_enter Tryz.func43, Tryz.ntmps43
  go_wp2_with fail
  go_ret
  exact ⟨by simp, rfl⟩
set_option maxHeartbeats 800000 in
theorem at_TAB_out (a : Int) (A : Option Addr) (hc : w.cell? ⟨sb, k, none⟩ = some (.slice A n c)) (_hn : n ≤ 65536) (ha : a < 0 ∨ (n : Int) ≤ a) :
    Calls Tryz.prog 43 #[.pointer (some ⟨sb, k, none⟩), .int .i64 a] w fun e w' => e = .returned (.pointer none) ∧ w = w' := by
  by_cases h0 : a < 0
  · have h1 : decide (a < 0) = true := decide_eq_true h0
    clear ha
    go_enter Tryz.func43, Tryz.ntmps43
    go_wp2_with fail
    go_ret
    exact ⟨rfl, rfl⟩
  · have h1 : decide (a < 0) = false := decide_eq_false h0
    have h2 : decide ((n : Int) ≤ a) = true := decide_eq_true (by omega)
    clear ha h0
    go_enter Tryz.func43, Tryz.ntmps43
    go_wp2_with fail
    go_ret
    exact ⟨rfl, rfl⟩
set_option maxHeartbeats 800000 in
theorem at_MEM_in (a g : Nat) (hc : w.cell? ⟨sb, k, none⟩ = some (.slice (some ⟨g, 0, none⟩) n c)) (_hn : n ≤ 65536) (ha : a < n) :
    Calls Tryz.prog 46 #[.pointer (some ⟨sb, k, none⟩), .int .i64 (a : Int)] w fun e w' => e = .returned (.pointer (some ⟨g, a, none⟩)) ∧ w = w' := by
  have h1 : ((a : Int) < 0) = False := eq_false (by omega)
  have h2 : decide ((n : Int) ≤ (a : Int)) = false := decide_eq_false (by omega)
  go_enter Tryz.func46, Tryz.ntmps46
  go_wp2_with fail
  go_ret
  exact ⟨by simp, rfl⟩
set_option maxHeartbeats 800000 in
theorem at_MEM_out (a : Int) (A : Option Addr) (hc : w.cell? ⟨sb, k, none⟩ = some (.slice A n c)) (_hn : n ≤ 65536) (ha : a < 0 ∨ (n : Int) ≤ a) :
    Calls Tryz.prog 46 #[.pointer (some ⟨sb, k, none⟩), .int .i64 a] w fun e w' => e = .returned (.pointer none) ∧ w = w' := by
  by_cases h0 : a < 0
  · have h1 : decide (a < 0) = true := decide_eq_true h0
    clear ha
    go_enter Tryz.func46, Tryz.ntmps46
    go_wp2_with fail
    go_ret
    exact ⟨rfl, rfl⟩
  · have h1 : decide (a < 0) = false := decide_eq_false h0
    have h2 : decide ((n : Int) ≤ a) = true := decide_eq_true (by omega)
    clear ha h0
    go_enter Tryz.func46, Tryz.ntmps46
    go_wp2_with fail
    go_ret
    exact ⟨rfl, rfl⟩
set_option maxHeartbeats 800000 in
theorem at_GLOB_in (a g : Nat) (hc : w.cell? ⟨sb, k, none⟩ = some (.slice (some ⟨g, 0, none⟩) n c)) (_hn : n ≤ 65536) (ha : a < n) :
    Calls Tryz.prog 49 #[.pointer (some ⟨sb, k, none⟩), .int .i64 (a : Int)] w fun e w' => e = .returned (.pointer (some ⟨g, a * 5, none⟩)) ∧ w = w' := by
  have h1 : ((a : Int) < 0) = False := eq_false (by omega)
  have h2 : decide ((n : Int) ≤ (a : Int)) = false := decide_eq_false (by omega)
  go_enter Tryz.func49, Tryz.ntmps49
  go_wp2_with fail
  go_ret
  exact ⟨by simp, rfl⟩
set_option maxHeartbeats 800000 in
theorem at_GLOB_out (a : Int) (A : Option Addr) (hc : w.cell? ⟨sb, k, none⟩ = some (.slice A n c)) (_hn : n ≤ 65536) (ha : a < 0 ∨ (n : Int) ≤ a) :
    Calls Tryz.prog 49 #[.pointer (some ⟨sb, k, none⟩), .int .i64 a] w fun e w' => e = .returned (.pointer none) ∧ w = w' := by
  by_cases h0 : a < 0
  · have h1 : decide (a < 0) = true := decide_eq_true h0
    clear ha
    go_enter Tryz.func49, Tryz.ntmps49
    go_wp2_with fail
    go_ret
    exact ⟨rfl, rfl⟩
  · have h1 : decide (a < 0) = false := decide_eq_false h0
    have h2 : decide ((n : Int) ≤ a) = true := decide_eq_true (by omega)
    clear ha h0
    go_enter Tryz.func49, Tryz.ntmps49
    go_wp2_with fail
    go_ret
    exact ⟨rfl, rfl⟩
set_option maxHeartbeats 800000 in
theorem at_ELEM_in (a g : Nat) (hc : w.cell? ⟨sb, k, none⟩ = some (.slice (some ⟨g, 0, none⟩) n c)) (_hn : n ≤ 65536) (ha : a < n) :
    Calls Tryz.prog 72 #[.pointer (some ⟨sb, k, none⟩), .int .i64 (a : Int)] w fun e w' => e = .returned (.pointer (some ⟨g, a * 2, none⟩)) ∧ w = w' := by
  have h1 : ((a : Int) < 0) = False := eq_false (by omega)
  have h2 : decide ((n : Int) ≤ (a : Int)) = false := decide_eq_false (by omega)
  go_enter Tryz.func72, Tryz.ntmps72
  go_wp2_with fail
  go_ret
  exact ⟨by simp, rfl⟩
set_option maxHeartbeats 800000 in
theorem at_ELEM_out (a : Int) (A : Option Addr) (hc : w.cell? ⟨sb, k, none⟩ = some (.slice A n c)) (_hn : n ≤ 65536) (ha : a < 0 ∨ (n : Int) ≤ a) :
    Calls Tryz.prog 72 #[.pointer (some ⟨sb, k, none⟩), .int .i64 a] w fun e w' => e = .returned (.pointer none) ∧ w = w' := by
  by_cases h0 : a < 0
  · have h1 : decide (a < 0) = true := decide_eq_true h0
    clear ha
    go_enter Tryz.func72, Tryz.ntmps72
    go_wp2_with fail
    go_ret
    exact ⟨rfl, rfl⟩
  · have h1 : decide (a < 0) = false := decide_eq_false h0
    have h2 : decide ((n : Int) ≤ a) = true := decide_eq_true (by omega)
    clear ha h0
    go_enter Tryz.func72, Tryz.ntmps72
    go_wp2_with fail
    go_ret
    exact ⟨rfl, rfl⟩
set_option maxHeartbeats 800000 in
theorem at_DATA_in (a g : Nat) (hc : w.cell? ⟨sb, k, none⟩ = some (.slice (some ⟨g, 0, none⟩) n c)) (_hn : n ≤ 65536) (ha : a < n) :
    Calls Tryz.prog 74 #[.pointer (some ⟨sb, k, none⟩), .int .i64 (a : Int)] w fun e w' => e = .returned (.pointer (some ⟨g, a, none⟩)) ∧ w = w' := by
  have h1 : ((a : Int) < 0) = False := eq_false (by omega)
  have h2 : decide ((n : Int) ≤ (a : Int)) = false := decide_eq_false (by omega)
  go_enter Tryz.func74, Tryz.ntmps74
  go_wp2_with fail
  go_ret
  exact ⟨by simp, rfl⟩
set_option maxHeartbeats 800000 in
theorem at_DATA_out (a : Int) (A : Option Addr) (hc : w.cell? ⟨sb, k, none⟩ = some (.slice A n c)) (_hn : n ≤ 65536) (ha : a < 0 ∨ (n : Int) ≤ a) :
    Calls Tryz.prog 74 #[.pointer (some ⟨sb, k, none⟩), .int .i64 a] w fun e w' => e = .returned (.pointer none) ∧ w = w' := by
  by_cases h0 : a < 0
  · have h1 : decide (a < 0) = true := decide_eq_true h0
    clear ha
    go_enter Tryz.func74, Tryz.ntmps74
    go_wp2_with fail
    go_ret
    exact ⟨rfl, rfl⟩
  · have h1 : decide (a < 0) = false := decide_eq_false h0
    have h2 : decide ((n : Int) ≤ a) = true := decide_eq_true (by omega)
    clear ha h0
    go_enter Tryz.func74, Tryz.ntmps74
    go_wp2_with fail
    go_ret
    exact ⟨rfl, rfl⟩
end
end Go.Proofs.YtlnkdnmeikpckaaGreat
namespace Go.Proofs.YtlnkdnmeikpckaaGreat
open Go.RowKit
set_option maxRecDepth 100000
section
variable {w : World} {sb B n : Nat} {fl tl ml gl el dl il : Value} {F : Nat → Value}
/-- What AddFunc has done. -/
structure Added (w w' : World) (sb B n : Nat) (fl tl ml gl el dl il : Value) (F : Nat → Value) (np : Nat) (v : Nat → UInt8) (nr : Nat) (u : Nat → UInt8) (h : Bool) (s : ByteArray) (i b : Int) : Prop where
  ex : ∃ fl' yA yc zA zc, Blk w' sb 132 (stCells fl' tl ml gl el dl il) ∧ Own w' B 51 6 AnyV fl' (n + 1) (after (n * 6) F (ecell #[.slice yA np yc, .slice zA nr zc, .bool h, .string s, .int .i64 i, .int .i64 b])) ∧
    Own w' w.heap.size 27 1 IsByte (.slice yA np yc) np (byteV v) ∧ Own w' w.heap.size 27 1 IsByte (.slice zA nr zc) nr (byteV u) ∧ (fl'.ownBlock = fl.ownBlock ∨ ∃ g, fl'.ownBlock = some g ∧ w.heap.size ≤ g)
  kept : Kept (ST sb fl) w w'
set_option maxRecDepth 100000 in
set_option maxHeartbeats 3200000 in
theorem addfunc_bad (A C : Option Addr) (np c nr d : Nat) (v u : Nat → UInt8) (h : Bool) (s : ByteArray) (i b : Int) (hb : Blk w sb 132 (stCells fl tl ml gl el dl il)) (hown : Own w B 51 6 AnyV fl n F) (hn : n < 65536) (hA : TSl w A np c v) (hC : TSl w C nr d u) (hbad : badT v np = true ∨ badT u nr = true) :
    Calls Tryz.prog 59 #[.pointer (some ⟨sb, 0, none⟩), .agg #[.slice A np c, .slice C nr d, .bool h, .string s, .int .i64 i, .int .i64 b]] w fun e w' => e = .returned (.tuple #[.int .i64 0, .int .i64 2]) ∧ Kept S0 w w' := by
  obtain ⟨fA, fc, hfl, _, _, _⟩ := hown.out
  subst hfl
  have hka : Kept S0 w (w.alloc (.cells #[.slice A np c, .slice C nr d, .bool h, .string s, .int .i64 i, .int .i64 b] 51)) := (Kept.refl S0 w).alloc _
  have hb1 := hka.blk hb (fun x => x)
  have c0 : (w.alloc (.cells #[.slice A np c, .slice C nr d, .bool h, .string s, .int .i64 i, .int .i64 b] 51)).cell? ⟨sb, 0, none⟩ = some (.bool true) := hb1.cell 0
  have c1 : (w.alloc (.cells #[.slice A np c, .slice C nr d, .bool h, .string s, .int .i64 i, .int .i64 b] 51)).cell? ⟨sb, 1, none⟩ = some (.slice fA n fc) := hb1.cell 1
  have hX := Blk.new w 51 #[.slice A np c, .slice C nr d, .bool h, .string s, .int .i64 i, .int .i64 b]
  have x0 := hX.cell 0
  have x1 := hX.cell 1
  have HA := Lib.hid (hA.kept hka)
  have HC := Lib.hid (hC.kept hka)
  have hnn : decide ((65536 : Int) ≤ (n : Int)) = false := decide_eq_false (by omega)
  have HK := Lib.hid hka
  have HB := Lib.hid hbad
  clear hb hown hA hC hbad hka hb1 hX
  go_enter Tryz.func59, Tryz.ntmps59
  go_wp2_with fail
  refine (off_made _ _ c0).mono ?_
  rintro e w1 ⟨rfl, rfl⟩
  go_wp2_with fail
  refine (vals_any A np c v _ HA.out.sl (by have := HA.out.sz; omega)).mono ?_
  rintro e w1 ⟨rfl, rfl⟩
  cases hp : badT v np with
  | true =>
    clear hp
    go_wp2_with fail
    go_ret2
    exact ⟨rfl, HK.out⟩
  | false =>
    have HBR := Lib.hid (HB.out.resolve_left (by rw [hp]; simp))
    clear hp
    go_wp2_with fail
    refine (vals_any C nr d u _ HC.out.sl (by have := HC.out.sz; omega)).mono ?_
    rintro e w1 ⟨rfl, rfl⟩
    rw [HBR.out]
    go_wp2_with fail
    go_ret2
    exact ⟨rfl, HK.out⟩
set_option maxRecDepth 100000 in
set_option maxHeartbeats 3200000 in
theorem addfunc_ok (A C : Option Addr) (np c nr d : Nat) (v u : Nat → UInt8) (h : Bool) (s : ByteArray) (i b : Int) (hb : Blk w sb 132 (stCells fl tl ml gl el dl il)) (hown : Own w B 51 6 AnyV fl n F) (hn : n < 65536) (hB : B ≤ w.heap.size) (hA : TSl w A np c v) (hC : TSl w C nr d u) (h1 : badT v np = false) (h2 : badT u nr = false) :
    Calls Tryz.prog 59 #[.pointer (some ⟨sb, 0, none⟩), .agg #[.slice A np c, .slice C nr d, .bool h, .string s, .int .i64 i, .int .i64 b]] w fun e w' => e = .returned (.tuple #[.int .i64 (n : Int), .int .i64 0]) ∧ Added w w' sb B n fl tl ml gl el dl il F np v nr u h s i b := by
  obtain ⟨fA, fc, hfl, _, _, _⟩ := hown.out
  subst hfl
  have hka : Kept S0 w (w.alloc (.cells #[.slice A np c, .slice C nr d, .bool h, .string s, .int .i64 i, .int .i64 b] 51)) := (Kept.refl S0 w).alloc _
  have hb1 := hka.blk hb (fun x => x)
  have c0 : (w.alloc (.cells #[.slice A np c, .slice C nr d, .bool h, .string s, .int .i64 i, .int .i64 b] 51)).cell? ⟨sb, 0, none⟩ = some (.bool true) := hb1.cell 0
  have c1 : (w.alloc (.cells #[.slice A np c, .slice C nr d, .bool h, .string s, .int .i64 i, .int .i64 b] 51)).cell? ⟨sb, 1, none⟩ = some (.slice fA n fc) := hb1.cell 1
  have hX := Blk.new w 51 #[.slice A np c, .slice C nr d, .bool h, .string s, .int .i64 i, .int .i64 b]
  have x0 := hX.cell 0
  have x1 := hX.cell 1
  have HX := Lib.hid hX
  have HB1 := Lib.hid hb1
  have HO1 := Lib.hid (hown.kept hka (fun _ _ x => x))
  have HA := Lib.hid (hA.kept hka)
  have HC := Lib.hid (hC.kept hka)
  have hnn : decide ((65536 : Int) ≤ (n : Int)) = false := decide_eq_false (by omega)
  have HK := Lib.hid hka
  have H1 := Lib.hid h1
  have H2 := Lib.hid h2
  have hsl := hb.lt
  have hfl : ∀ g, (Value.slice fA n fc).ownBlock = some g → g < w.heap.size := fun g hg => (hown.lt g hg).2
  have HFL := Lib.hid hfl
  clear hb hown hA hC h1 h2 hka hb1 hX hfl
  go_enter Tryz.func59, Tryz.ntmps59
  go_wp2_with fail
  refine (off_made _ _ c0).mono ?_
  rintro e w1 ⟨rfl, rfl⟩
  go_wp2_with fail
  refine (vals_any A np c v _ HA.out.sl (by have := HA.out.sz; omega)).mono ?_
  rintro e w1 ⟨rfl, rfl⟩
  rw [H1.out]
  go_wp2_with fail
  refine (vals_any C nr d u _ HC.out.sl (by have := HC.out.sz; omega)).mono ?_
  rintro e w1 ⟨rfl, rfl⟩
  rw [H2.out]
  go_wp2_with fail
  refine (own_any A np c v C nr d u _ HA.out HC.out).mono ?_
  rintro e w2 ⟨y, z, rfl, hy, hz, _, hk2⟩
  obtain ⟨yA, yc, hye, _, _, _⟩ := hy.out
  obtain ⟨zA, zc, hze, _, _, _⟩ := hz.out
  subst hye hze
  have hx2 := hk2.blk HX.out (fun x => x)
  have t0 := hx2.cell 0
  have t1 := hx2.cell 1
  have f0 := hx2.frozen 0
  have f1 := hx2.frozen 1
  generalize hbx : w.heap.size = bx at *
  have hs2 : Kept (S1 bx) w2 ((w2.setCell ⟨bx, 0, none⟩ (.slice yA np yc)).setCell ⟨bx, 1, none⟩ (.slice zA nr zc)) := ((Kept.refl (S1 bx) w2).setCell (p := ⟨bx, 0, none⟩) (.inl rfl) _).setCell (p := ⟨bx, 1, none⟩) (.inl rfl) _
  have HS2 := Lib.hid hs2
  have HX3 := Lib.hid (show Blk ((w2.setCell ⟨bx, 0, none⟩ (.slice yA np yc)).setCell ⟨bx, 1, none⟩ (.slice zA nr zc)) bx 51 #[.slice yA np yc, .slice zA nr zc, .bool h, .string s, .int .i64 i, .int .i64 b] from (hx2.set_ 0 _).set_ 1 _)
  have HK2 := Lib.hid hk2
  have HY := Lib.hid hy
  have HZ := Lib.hid hz
  clear hk2 hx2 x0 x1 c0 c1 hs2 hy hz
  go_wp2_with fail
  generalize (w2.setCell ⟨bx, 0, none⟩ (.slice yA np yc)).setCell ⟨bx, 1, none⟩ (.slice zA nr zc) = w3 at *
  clear t0 t1 f0 f1
  have y0 := HX3.out.cell 0
  have y1 := HX3.out.cell 1
  have y2 := HX3.out.cell 2
  have y3 := HX3.out.cell 3
  have y4 := HX3.out.cell 4
  have y5 := HX3.out.cell 5
  refine wp_region_R (fun w' => w'.cell? ⟨bx, 0, none⟩ = some (.slice yA np yc) ∧ w'.cell? ⟨bx, 1, none⟩ = some (.slice zA nr zc) ∧ w'.cell? ⟨bx, 2, none⟩ = some (.bool h) ∧ w'.cell? ⟨bx, 3, none⟩ = some (.string s) ∧ w'.cell? ⟨bx, 4, none⟩ = some (.int .i64 i) ∧ w'.cell? ⟨bx, 5, none⟩ = some (.int .i64 b)) [] (by kernel_rfl) ?_
  have hdd := (Kept.refl S0 w3).drew
  have hw1 : ∀ i, i < bx → ¬ S1 bx i := fun i hi e => by have e' : i = bx := e; omega
  have hb3 : Blk w3.drew sb 132 (stCells (.slice fA n fc) tl ml gl el dl il) := hdd.blk (HS2.out.blk (HK2.out.blk HB1.out (fun x => x)) (hw1 sb hsl)) (fun x => x)
  have ho3 : Own w3.drew B 51 6 AnyV (.slice fA n fc) n F := ((HO1.out.kept HK2.out (fun _ _ x => x)).kept HS2.out (fun g hg => hw1 g (HFL.out g hg))).kept hdd (fun _ _ x => x)
  have hbase : bx + 1 = (w.alloc (.cells #[.slice A np c, .slice C nr d, .bool h, .string s, .int .i64 i, .int .i64 b] 51)).heap.size := by simp [hbx]
  have hB3 : B ≤ w3.drew.heap.size := Nat.le_trans hB (by have h1 := HK2.out.size; have h2 := HS2.out.size; have h3 := hdd.size; omega)
  generalize w3.drew = wd at *
  have hS : wd.cell? ⟨bx, 0, none⟩ = some (.slice yA np yc) ∧ wd.cell? ⟨bx, 1, none⟩ = some (.slice zA nr zc) ∧ wd.cell? ⟨bx, 2, none⟩ = some (.bool h) ∧ wd.cell? ⟨bx, 3, none⟩ = some (.string s) ∧ wd.cell? ⟨bx, 4, none⟩ = some (.int .i64 i) ∧ wd.cell? ⟨bx, 5, none⟩ = some (.int .i64 b) := ⟨keep0 hdd y0, keep0 hdd y1, keep0 hdd y2, keep0 hdd y3, keep0 hdd y4, keep0 hdd y5⟩
  have hX4 : Blk wd bx 51 #[.slice yA np yc, .slice zA nr zc, .bool h, .string s, .int .i64 i, .int .i64 b] := hdd.blk HX3.out (fun x => x)
  refine tkR 0 (v := ?_) rfl hS ⟨by rfl, ?_⟩ ?_
  rotate_left; (intro w hSw; (try dsimp only at hSw); first | (go_simp; done) | (go_simp; with_reducible rfl))
  simp only [zq1, zq2, Act.put, zq4, zq5, zq6]
  refine tkR 1 (v := ?_) rfl hS ⟨by rfl, ?_⟩ ?_
  rotate_left; (intro w hSw; (try dsimp only at hSw); first | (go_simp; done) | (go_simp; with_reducible rfl))
  simp only [zq1, zq2, zq3, Act.put, zq4, zq5, zq6]
  refine tkR 2 (v := ?_) rfl hS ⟨by rfl, ?_⟩ ?_
  rotate_left; (intro w hSw; (try dsimp only at hSw); first | (go_simp; done) | (go_simp; with_reducible rfl))
  simp only [zq1, zq2, zq3, Act.put, zq4, zq5, zq6]
  refine tkR 3 (v := ?_) rfl hS ⟨by rfl, ?_⟩ ?_
  rotate_left; (intro w hSw; (try dsimp only at hSw); first | (go_simp; done) | (go_simp; with_reducible rfl))
  simp only [zq1, zq2, zq3, Act.put, zq4, zq5, zq6]
  refine wpAnyR_one 4 rfl (by kernel_rfl) (fun K hK => ?_)
  go_simp
  go_at_call 86
  refine (add_FUNC 1 (.slice yA np yc) (.slice zA nr zc) (.bool h) (.string s) (.int .i64 i) (.int .i64 b) rfl rfl rfl rfl rfl rfl hb3 rfl ho3 hn hB3).mono ?_
  rintro e w4 ⟨rfl, fl', hb4, ho4, hk4, hl4⟩
  have hyb : ∀ g, (Value.slice yA np yc).ownBlock = some g → ¬ ST sb (.slice fA n fc) g := fun g hg e => by
    have h1 := (HY.out.lt g hg).1
    rcases e with e | e
    · omega
    · have := HFL.out g e; omega
  have hzb : ∀ g, (Value.slice zA nr zc).ownBlock = some g → ¬ ST sb (.slice fA n fc) g := fun g hg e => by
    have h1 := (HZ.out.lt g hg).1
    rcases e with e | e
    · omega
    · have := HFL.out g e; omega
  have hy4 := (((HY.out.kept HS2.out (fun g hg e => by have e' : g = bx := e; have h1 := (HY.out.lt g hg).1; omega)).kept hdd (fun _ _ x => x)).kept hk4 hyb).mono (b := bx) (by omega)
  have hz4 := (((HZ.out.kept HS2.out (fun g hg e => by have e' : g = bx := e; have h1 := (HZ.out.lt g hg).1; omega)).kept hdd (fun _ _ x => x)).kept hk4 hzb).mono (b := bx) (by omega)
  have hkk : Kept (ST sb (.slice fA n fc)) w w4 := ((((HK.out.then0 HK2.out).trans_ HS2.out (fun i e => .inr (by have e' : i = bx := e; omega))).then0 hdd).of0 _).trans hk4
  have HFIN := Lib.hid (show Added w w4 sb B n (.slice fA n fc) tl ml gl el dl il F np v nr u h s i b from ⟨⟨fl', yA, yc, zA, zc, hb4, ho4, by rw [hbx]; exact hy4, by rw [hbx]; exact hz4, hl4.imp id (fun ⟨g, q1, q2⟩ => ⟨g, q1, by have h1 := HK.out.size; have h2 := HK2.out.size; have h3 := HS2.out.size; have h4 := hdd.size; omega⟩)⟩, hkk⟩)
  have hbt : ¬ ST sb (.slice fA n fc) bx := fun e => by
    rcases e with e | e
    · omega
    · have := HFL.out bx e; omega
  have hX5 := hk4.blk hX4 hbt
  have hS4 : w4.cell? ⟨bx, 0, none⟩ = some (.slice yA np yc) ∧ w4.cell? ⟨bx, 1, none⟩ = some (.slice zA nr zc) ∧ w4.cell? ⟨bx, 2, none⟩ = some (.bool h) ∧ w4.cell? ⟨bx, 3, none⟩ = some (.string s) ∧ w4.cell? ⟨bx, 4, none⟩ = some (.int .i64 i) ∧ w4.cell? ⟨bx, 5, none⟩ = some (.int .i64 b) := ⟨hX5.cell 0, hX5.cell 1, hX5.cell 2, hX5.cell 3, hX5.cell 4, hX5.cell 5⟩
  clear hb4 ho4 hk4 hl4 hyb hzb hy4 hz4 hkk hdd hw1 hb3 ho3 hB3 y0 y1 y2 y3 y4 y5 hX4 hX5 hbt
  refine hK.out _ _ (fun _ => hS4) ?_
  clear hK K
  refine tkR 5 (v := ?_) rfl hS4 ⟨by rfl, ?_⟩ ?_
  rotate_left; (intro w hSw; (try dsimp only at hSw); first | (go_simp; done) | (go_simp; with_reducible rfl))
  simp only [zq1, zq2, zq3, Act.put, zq4, zq5, zq6]
  refine tkR 6 (v := ?_) rfl hS4 ⟨by rfl, ?_⟩ ?_
  rotate_left; (intro w hSw; (try dsimp only at hSw); first | (go_simp; done) | (go_simp; with_reducible rfl))
  simp only [zq1, zq2, zq3, Act.put, zq4, zq5, zq6]
  refine tkR 7 (v := ?_) rfl hS4 ⟨by rfl, ?_⟩ ?_
  rotate_left; (intro w hSw; (try dsimp only at hSw); first | (go_simp; done) | (go_simp; with_reducible rfl))
  simp only [zq1, zq2, zq3, Act.put, zq4, zq5, zq6]
  refine tkR 8 (v := ?_) rfl hS4 ⟨by rfl, ?_⟩ ?_
  rotate_left; (intro w hSw; (try dsimp only at hSw); first | (go_simp; done) | (go_simp; with_reducible rfl))
  simp only [zq1, zq2, zq3, Act.put, zq4, zq5, zq6]
  clear hS hS4
  refine wpAnyR_done (by kernel_rfl) ?_ _
  go_wp2_with fail
  go_ret2
  exact ⟨rfl, HFIN.out⟩
end
end Go.Proofs.YtlnkdnmeikpckaaGreat
namespace Go.Proofs.YtlnkdnmeikpckaaGreat
open Go.RowKit
set_option maxRecDepth 100000
section
variable {w : World} {sb B n : Nat} {fl tl ml gl el dl il : Value} {F : Nat → Value}
set_option maxRecDepth 100000 in
set_option maxHeartbeats 1600000 in
theorem host_ok (A C : Option Addr) (np c nr d : Nat) (v u : Nat → UInt8) (s : ByteArray) (hb : Blk w sb 132 (stCells fl tl ml gl el dl il)) (hown : Own w B 51 6 AnyV fl n F) (hn : n < 65536) (hB : B ≤ w.heap.size) (hA : TSl w A np c v) (hC : TSl w C nr d u) (h1 : badT v np = false) (h2 : badT u nr = false) :
    Calls Tryz.prog 39 #[.pointer (some ⟨sb, 0, none⟩), .string s, .agg #[.slice A np c, .slice C nr d]] w fun e w' => e = .returned (.tuple #[.int .i64 (n : Int), .int .i64 0]) ∧ Added w w' sb B n fl tl ml gl el dl il F np v nr u true s 0 0 := by
  have hka : Kept S0 w (w.alloc (.cells #[.slice A np c, .slice C nr d] 38)) := (Kept.refl S0 w).alloc _
  have hX := Blk.new w 38 #[.slice A np c, .slice C nr d]
  have x0 := hX.cell 0
  have x1 := hX.cell 1
  have HB1 := Lib.hid (hka.blk hb (fun x => x))
  have HO1 := Lib.hid (hown.kept hka (fun _ _ x => x))
  have HA := Lib.hid (hA.kept hka)
  have HC := Lib.hid (hC.kept hka)
  have HK := Lib.hid hka
  have hsz : (w.alloc (.cells #[.slice A np c, .slice C nr d] 38)).heap.size = w.heap.size + 1 := by simp
  have hB1 : B ≤ (w.alloc (.cells #[.slice A np c, .slice C nr d] 38)).heap.size := Nat.le_trans hB hka.size
  have HSZ := Lib.hid hsz
  have HB2 := Lib.hid hB1
  clear hb hown hA hC hka hX hsz hB1 hB
  go_enter Tryz.func39, Tryz.ntmps39
  go_wp2_with fail
  refine (addfunc_ok A C np c nr d v u true s 0 0 HB1.out HO1.out hn HB2.out HA.out HC.out h1 h2).mono ?_
  rintro e w2 ⟨rfl, had⟩
  have HFIN := Lib.hid (show Added w w2 sb B n fl tl ml gl el dl il F np v nr u true s 0 0 from by
    obtain ⟨⟨fl', yA, yc, zA, zc, q1, q2, q3, q4, q5⟩, qk⟩ := had
    have hz := HSZ.out
    refine ⟨⟨fl', yA, yc, zA, zc, q1, q2, q3.mono (by omega), q4.mono (by omega), q5.imp id (fun ⟨g, a, b⟩ => ⟨g, a, by omega⟩)⟩, (HK.out.of0 _).trans qk⟩)
  clear had h1 h2 x0 x1
  go_wp2_with fail
  go_ret2
  exact ⟨rfl, HFIN.out⟩
/-- A function of a store. -/
structure FnAt (w : World) (F : Nat → Value) (a : Nat) (A : Option Addr) (np c : Nat) (v : Nat → UInt8) (C : Option Addr) (nr d : Nat) (u : Nat → UInt8) (h : Bool) (s : ByteArray) (i b : Int) : Prop where
  f0 : F (a * 6) = .slice A np c
  f1 : F (a * 6 + 1) = .slice C nr d
  f2 : F (a * 6 + 2) = .bool h
  f3 : F (a * 6 + 3) = .string s
  f4 : F (a * 6 + 4) = .int .i64 i
  f5 : F (a * 6 + 5) = .int .i64 b
  p : TSl w A np c v
  r : TSl w C nr d u
theorem FnAt.kept {w' : World} {a : Nat} {A : Option Addr} {np c : Nat} {v : Nat → UInt8} {C : Option Addr} {nr d : Nat} {u : Nat → UInt8} {h : Bool} {s : ByteArray} {i b : Int} (x : FnAt w F a A np c v C nr d u h s i b) (hk : Kept S0 w w') : FnAt w' F a A np c v C nr d u h s i b :=
  ⟨x.f0, x.f1, x.f2, x.f3, x.f4, x.f5, x.p.kept hk, x.r.kept hk⟩
theorem Own.rowcell {w : World} {base e size : Nat} {Q : Value → Prop} {n : Nat} {F : Nat → Value} {g c : Nat} (h : Own w base e size Q (.slice (some ⟨g, 0, none⟩) n c) n F) {j : Nat} (hj : j < n * size) : w.cell? ⟨g, j, none⟩ = some (F j) := by
  rcases h with ⟨e, _⟩ | ⟨g', cap, fr, e, h1, h2, h3, h4, h5, h6⟩
  · cases e
  · cases e
    rw [← h5 j hj]
    exact h4.cell (Nat.lt_of_lt_of_le hj (Nat.mul_le_mul_right _ h2))
theorem Own.is_some {w : World} {base e size : Nat} {Q : Value → Prop} {n : Nat} {F : Nat → Value} {v : Value} (h : Own w base e size Q v n F) (hn : 0 < n) : ∃ g c, v = .slice (some ⟨g, 0, none⟩) n c ∧ base ≤ g ∧ n ≤ c := by
  rcases h with ⟨_, rfl⟩ | ⟨g, cap, fr, e, h1, h2, h3, h4, h5, h6⟩
  · omega
  · exact ⟨g, cap, e, h1, h2⟩
set_option maxRecDepth 100000 in
set_option maxHeartbeats 3200000 in
theorem getfunc_in (a : Nat) (A C : Option Addr) (np c nr d : Nat) (v u : Nat → UInt8) (h : Bool) (s : ByteArray) (i b : Int) (hb : Blk w sb 132 (stCells fl tl ml gl el dl il)) (hown : Own w B 51 6 AnyV fl n F) (hn : n ≤ 65536) (ha : a < n) (hF : FnAt w F a A np c v C nr d u h s i b) :
    Calls Tryz.prog 14 #[.pointer (some ⟨sb, 0, none⟩), .int .i64 (a : Int)] w fun e w' => ∃ y z, e = .returned (.tuple #[.agg #[y, z, .bool h, .string s, .int .i64 i, .int .i64 b], .int .i64 0]) ∧ Own w' w.heap.size 27 1 IsByte y np (byteV v) ∧ Own w' w.heap.size 27 1 IsByte z nr (byteV u) ∧ Kept S0 w w' := by
  obtain ⟨g, fc, hfl, _, _⟩ := hown.is_some (by omega)
  subst hfl
  have hka : Kept S0 w (w.alloc (.cells #[.slice none 0 0, .slice none 0 0, .bool false, .string { data := #[] }, .int .i64 0, .int .i64 0] 51)) := (Kept.refl S0 w).alloc _
  have hb1 := hka.blk hb (fun x => x)
  have hown1 := hown.kept hka (fun _ _ x => x)
  have HR := Lib.hid (Blk.new w 51 #[.slice none 0 0, .slice none 0 0, .bool false, .string { data := #[] }, .int .i64 0, .int .i64 0])
  have c0 := hb1.cell 0
  have c1 := hb1.cell 1
  have HF := Lib.hid (hF.kept hka)
  have HO := Lib.hid hown1
  have HK := Lib.hid hka
  generalize hwa : w.alloc (.cells #[.slice none 0 0, .slice none 0 0, .bool false, .string { data := #[] }, .int .i64 0, .int .i64 0] 51) = wa at *
  have hwsz : wa.heap.size = w.heap.size + 1 := by rw [← hwa]; simp
  have HWS := Lib.hid hwsz
  clear hb hown hka hb1 hown1 hF hwsz
  go_enter Tryz.func14, Tryz.ntmps14
  go_wp2_with fail
  refine (off_made _ _ c0).mono ?_
  rintro e w1 ⟨rfl, rfl⟩
  go_wp2_with fail
  refine (at_FUNC_in a g c1 hn ha).mono ?_
  rintro e w1 ⟨rfl, rfl⟩
  have g0 := (HO.out.rowcell (j := a * 6) (by omega)).trans (congrArg some HF.out.f0)
  have g1 := (HO.out.rowcell (j := a * 6 + 1) (by omega)).trans (congrArg some HF.out.f1)
  have g2 := (HO.out.rowcell (j := a * 6 + 2) (by omega)).trans (congrArg some HF.out.f2)
  have g3 := (HO.out.rowcell (j := a * 6 + 3) (by omega)).trans (congrArg some HF.out.f3)
  have g4 := (HO.out.rowcell (j := a * 6 + 4) (by omega)).trans (congrArg some HF.out.f4)
  have g5 := (HO.out.rowcell (j := a * 6 + 5) (by omega)).trans (congrArg some HF.out.f5)
  go_wp2_with fail
  have hk1 : Kept S0 wa (wa.alloc (.cells #[.slice A np c, .slice C nr d, .bool h, .string s, .int .i64 i, .int .i64 b] 51)) := (Kept.refl S0 wa).alloc _
  have HX := Lib.hid (Blk.new wa 51 #[.slice A np c, .slice C nr d, .bool h, .string s, .int .i64 i, .int .i64 b])
  have HF1 := Lib.hid (HF.out.kept hk1)
  have HK1 := Lib.hid hk1
  clear g0 g1 g2 g3 g4 g5 c0 c1 hk1
  refine (own_any A np c v C nr d u _ HF1.out.p HF1.out.r).mono ?_
  rintro e w2 ⟨y, z, rfl, hy, hz, _, hk2⟩
  obtain ⟨yA, yc, hye, _, _, _⟩ := hy.out
  obtain ⟨zA, zc, hze, _, _, _⟩ := hz.out
  subst hye hze
  have hx2 := hk2.blk HX.out (fun x => x)
  have hr2 := hk2.blk (HK1.out.blk HR.out (fun x => x)) (fun x => x)
  have hwb : (wa.alloc (.cells #[.slice A np c, .slice C nr d, .bool h, .string s, .int .i64 i, .int .i64 b] 51)).heap.size = wa.heap.size + 1 := by simp
  have HWB := Lib.hid hwb
  generalize hbx : wa.heap.size = bx at *
  generalize hrb : w.heap.size = rb at *
  have hlt : rb < bx := by have := HWS.out; omega
  have t0 := hx2.cell 0
  have t1 := hx2.cell 1
  have f0 := hx2.frozen 0
  have f1 := hx2.frozen 1
  have hs2 : Kept (S1 bx) w2 ((w2.setCell ⟨bx, 0, none⟩ (.slice yA np yc)).setCell ⟨bx, 1, none⟩ (.slice zA nr zc)) := ((Kept.refl (S1 bx) w2).setCell (p := ⟨bx, 0, none⟩) (.inl rfl) _).setCell (p := ⟨bx, 1, none⟩) (.inl rfl) _
  have HR3 := Lib.hid (hs2.blk hr2 (fun e => by have e' : rb = bx := e; omega))
  have HX3 := Lib.hid (show Blk ((w2.setCell ⟨bx, 0, none⟩ (.slice yA np yc)).setCell ⟨bx, 1, none⟩ (.slice zA nr zc)) bx 51 #[.slice yA np yc, .slice zA nr zc, .bool h, .string s, .int .i64 i, .int .i64 b] from (hx2.set_ 0 _).set_ 1 _)
  have HY := Lib.hid (hy.kept hs2 (fun g hg e => by have e' : g = bx := e; have h1 := (hy.lt g hg).1; have := HWB.out; omega))
  have HZ := Lib.hid (hz.kept hs2 (fun g hg e => by have e' : g = bx := e; have h1 := (hz.lt g hg).1; have := HWB.out; omega))
  have HKK := Lib.hid (((HK.out.then0 HK1.out).then0 hk2).trans_ hs2 (fun i e => .inr (by have e' : i = bx := e; omega)))
  clear hx2 hr2 hwb hs2 hy hz hk2
  have y0 : ((w2.setCell ⟨bx, 0, none⟩ (.slice yA np yc)).setCell ⟨bx, 1, none⟩ (.slice zA nr zc)).cell? ⟨bx, 0, none⟩ = some (.slice yA np yc) := HX3.out.cell 0
  have y1 : ((w2.setCell ⟨bx, 0, none⟩ (.slice yA np yc)).setCell ⟨bx, 1, none⟩ (.slice zA nr zc)).cell? ⟨bx, 1, none⟩ = some (.slice zA nr zc) := HX3.out.cell 1
  have y2 : ((w2.setCell ⟨bx, 0, none⟩ (.slice yA np yc)).setCell ⟨bx, 1, none⟩ (.slice zA nr zc)).cell? ⟨bx, 2, none⟩ = some (.bool h) := HX3.out.cell 2
  have y3 : ((w2.setCell ⟨bx, 0, none⟩ (.slice yA np yc)).setCell ⟨bx, 1, none⟩ (.slice zA nr zc)).cell? ⟨bx, 3, none⟩ = some (.string s) := HX3.out.cell 3
  have y4 : ((w2.setCell ⟨bx, 0, none⟩ (.slice yA np yc)).setCell ⟨bx, 1, none⟩ (.slice zA nr zc)).cell? ⟨bx, 4, none⟩ = some (.int .i64 i) := HX3.out.cell 4
  have y5 : ((w2.setCell ⟨bx, 0, none⟩ (.slice yA np yc)).setCell ⟨bx, 1, none⟩ (.slice zA nr zc)).cell? ⟨bx, 5, none⟩ = some (.int .i64 b) := HX3.out.cell 5
  have r0 : ((w2.setCell ⟨bx, 0, none⟩ (.slice yA np yc)).setCell ⟨bx, 1, none⟩ (.slice zA nr zc)).cell? ⟨rb, 0, none⟩ = some (.slice none 0 0) := HR3.out.cell 0
  have q0 : ((w2.setCell ⟨bx, 0, none⟩ (.slice yA np yc)).setCell ⟨bx, 1, none⟩ (.slice zA nr zc)).frozen? ⟨rb, 0, none⟩ = false := HR3.out.frozen 0
  have r1 : ((w2.setCell ⟨bx, 0, none⟩ (.slice yA np yc)).setCell ⟨bx, 1, none⟩ (.slice zA nr zc)).cell? ⟨rb, 1, none⟩ = some (.slice none 0 0) := HR3.out.cell 1
  have q1 : ((w2.setCell ⟨bx, 0, none⟩ (.slice yA np yc)).setCell ⟨bx, 1, none⟩ (.slice zA nr zc)).frozen? ⟨rb, 1, none⟩ = false := HR3.out.frozen 1
  have r2 : ((w2.setCell ⟨bx, 0, none⟩ (.slice yA np yc)).setCell ⟨bx, 1, none⟩ (.slice zA nr zc)).cell? ⟨rb, 2, none⟩ = some (.bool false) := HR3.out.cell 2
  have q2 : ((w2.setCell ⟨bx, 0, none⟩ (.slice yA np yc)).setCell ⟨bx, 1, none⟩ (.slice zA nr zc)).frozen? ⟨rb, 2, none⟩ = false := HR3.out.frozen 2
  have r3 : ((w2.setCell ⟨bx, 0, none⟩ (.slice yA np yc)).setCell ⟨bx, 1, none⟩ (.slice zA nr zc)).cell? ⟨rb, 3, none⟩ = some (.string { data := #[] }) := HR3.out.cell 3
  have q3 : ((w2.setCell ⟨bx, 0, none⟩ (.slice yA np yc)).setCell ⟨bx, 1, none⟩ (.slice zA nr zc)).frozen? ⟨rb, 3, none⟩ = false := HR3.out.frozen 3
  have r4 : ((w2.setCell ⟨bx, 0, none⟩ (.slice yA np yc)).setCell ⟨bx, 1, none⟩ (.slice zA nr zc)).cell? ⟨rb, 4, none⟩ = some (.int .i64 0) := HR3.out.cell 4
  have q4 : ((w2.setCell ⟨bx, 0, none⟩ (.slice yA np yc)).setCell ⟨bx, 1, none⟩ (.slice zA nr zc)).frozen? ⟨rb, 4, none⟩ = false := HR3.out.frozen 4
  have r5 : ((w2.setCell ⟨bx, 0, none⟩ (.slice yA np yc)).setCell ⟨bx, 1, none⟩ (.slice zA nr zc)).cell? ⟨rb, 5, none⟩ = some (.int .i64 0) := HR3.out.cell 5
  have q5 : ((w2.setCell ⟨bx, 0, none⟩ (.slice yA np yc)).setCell ⟨bx, 1, none⟩ (.slice zA nr zc)).frozen? ⟨rb, 5, none⟩ = false := HR3.out.frozen 5
  go_wp2_with fail
  generalize (w2.setCell ⟨bx, 0, none⟩ (.slice yA np yc)).setCell ⟨bx, 1, none⟩ (.slice zA nr zc) = w3 at *
  have hR3 := HR3.out
  have hR4 : Blk ((((((w3.setCell ⟨rb, 0, none⟩ (.slice yA np yc)).setCell ⟨rb, 1, none⟩ (.slice zA nr zc)).setCell ⟨rb, 2, none⟩ (.bool h)).setCell ⟨rb, 3, none⟩ (.string s)).setCell ⟨rb, 4, none⟩ (.int .i64 i)).setCell ⟨rb, 5, none⟩ (.int .i64 b)) rb 51 #[.slice yA np yc, .slice zA nr zc, .bool h, .string s, .int .i64 i, .int .i64 b] := (((((hR3.set_ 0 (.slice yA np yc)).set_ 1 (.slice zA nr zc)).set_ 2 (.bool h)).set_ 3 (.string s)).set_ 4 (.int .i64 i)).set_ 5 (.int .i64 b)
  have hk4 : Kept (S1 rb) w3 ((((((w3.setCell ⟨rb, 0, none⟩ (.slice yA np yc)).setCell ⟨rb, 1, none⟩ (.slice zA nr zc)).setCell ⟨rb, 2, none⟩ (.bool h)).setCell ⟨rb, 3, none⟩ (.string s)).setCell ⟨rb, 4, none⟩ (.int .i64 i)).setCell ⟨rb, 5, none⟩ (.int .i64 b)) := ((((((Kept.refl (S1 rb) w3).setCell (p := ⟨rb, 0, none⟩) (.inl rfl) (.slice yA np yc)).setCell (p := ⟨rb, 1, none⟩) (.inl rfl) (.slice zA nr zc)).setCell (p := ⟨rb, 2, none⟩) (.inl rfl) (.bool h)).setCell (p := ⟨rb, 3, none⟩) (.inl rfl) (.string s)).setCell (p := ⟨rb, 4, none⟩) (.inl rfl) (.int .i64 i)).setCell (p := ⟨rb, 5, none⟩) (.inl rfl) (.int .i64 b)
  have u0 := hR4.cell 0
  have u1 := hR4.cell 1
  have u2 := hR4.cell 2
  have u3 := hR4.cell 3
  have u4 := hR4.cell 4
  have u5 := hR4.cell 5
  have HY4 := Lib.hid (HY.out.kept hk4 (fun g hg e => by have e' : g = rb := e; have h1 := (HY.out.lt g hg).1; have := HWB.out; omega))
  have HZ4 := Lib.hid (HZ.out.kept hk4 (fun g hg e => by have e' : g = rb := e; have h1 := (HZ.out.lt g hg).1; have := HWB.out; omega))
  have HK4 := Lib.hid (HKK.out.trans_ hk4 (fun i e => .inr (by have e' : i = rb := e; omega)))
  clear hR3 hR4 hk4
  exact bodyPost_ret (v := .tuple #[.agg #[.slice yA np yc, .slice zA nr zc, .bool h, .string s, .int .i64 i, .int .i64 b], .int .i64 0]) (by simp [results, Tryz.results14, go_sem, u0, u1, u2, u3, u4, u5]) rfl ⟨_, _, rfl, HY4.out.mono (by have := HWB.out; omega), HZ4.out.mono (by have := HWB.out; omega), HK4.out⟩
set_option maxRecDepth 100000 in
set_option maxHeartbeats 1600000 in
theorem getfunc_out (a : Int) (hb : Blk w sb 132 (stCells fl tl ml gl el dl il)) (hown : Own w B 51 6 AnyV fl n F) (hn : n ≤ 65536) (ha : a < 0 ∨ (n : Int) ≤ a) :
    Calls Tryz.prog 14 #[.pointer (some ⟨sb, 0, none⟩), .int .i64 a] w fun e w' => e = .returned (.tuple #[.agg #[.slice none 0 0, .slice none 0 0, .bool false, .string { data := #[] }, .int .i64 0, .int .i64 0], .int .i64 11]) ∧ Kept S0 w w' := by
  obtain ⟨fA, fc, hfl, _, _, _⟩ := hown.out
  subst hfl
  have hka : Kept S0 w (w.alloc (.cells #[.slice none 0 0, .slice none 0 0, .bool false, .string { data := #[] }, .int .i64 0, .int .i64 0] 51)) := (Kept.refl S0 w).alloc _
  have hb1 := hka.blk hb (fun x => x)
  have hr := Blk.new w 51 #[.slice none 0 0, .slice none 0 0, .bool false, .string { data := #[] }, .int .i64 0, .int .i64 0]
  have c0 := hb1.cell 0
  have c1 := hb1.cell 1
  have HK := Lib.hid hka
  generalize hrb : w.heap.size = rb at *
  generalize hwa : w.alloc (.cells #[.slice none 0 0, .slice none 0 0, .bool false, .string { data := #[] }, .int .i64 0, .int .i64 0] 51) = wa at *
  have hk4 := ((((((Kept.refl (S1 rb) wa).setCell (p := ⟨rb, 0, none⟩) (.inl rfl) (.slice none 0 0)).setCell (p := ⟨rb, 1, none⟩) (.inl rfl) (.slice none 0 0)).setCell (p := ⟨rb, 2, none⟩) (.inl rfl) (.bool false)).setCell (p := ⟨rb, 3, none⟩) (.inl rfl) (.string { data := #[] })).setCell (p := ⟨rb, 4, none⟩) (.inl rfl) (.int .i64 0)).setCell (p := ⟨rb, 5, none⟩) (.inl rfl) (.int .i64 0)
  have hR4 : Blk ((((((wa.setCell ⟨rb, 0, none⟩ (.slice none 0 0)).setCell ⟨rb, 1, none⟩ (.slice none 0 0)).setCell ⟨rb, 2, none⟩ (.bool false)).setCell ⟨rb, 3, none⟩ (.string { data := #[] })).setCell ⟨rb, 4, none⟩ (.int .i64 0)).setCell ⟨rb, 5, none⟩ (.int .i64 0)) rb 51 #[.slice none 0 0, .slice none 0 0, .bool false, .string { data := #[] }, .int .i64 0, .int .i64 0] := (((((hr.set_ 0 (.slice none 0 0)).set_ 1 (.slice none 0 0)).set_ 2 (.bool false)).set_ 3 (.string { data := #[] })).set_ 4 (.int .i64 0)).set_ 5 (.int .i64 0)
  have u0 := hR4.cell 0
  have u1 := hR4.cell 1
  have u2 := hR4.cell 2
  have u3 := hR4.cell 3
  have u4 := hR4.cell 4
  have u5 := hR4.cell 5
  have HK4 := Lib.hid (hka.trans_ hk4 (fun i e => .inr (by have e' : i = rb := e; omega)))
  clear hR4
  clear hb hown hka hb1 hk4
  have r0 := hr.cell 0
  have q0 := hr.frozen 0
  have r1 := hr.cell 1
  have q1 := hr.frozen 1
  have r2 := hr.cell 2
  have q2 := hr.frozen 2
  have r3 := hr.cell 3
  have q3 := hr.frozen 3
  have r4 := hr.cell 4
  have q4 := hr.frozen 4
  have r5 := hr.cell 5
  have q5 := hr.frozen 5
  go_enter Tryz.func14, Tryz.ntmps14
  go_wp2_with fail
  refine (off_made _ _ c0).mono ?_
  rintro e w1 ⟨rfl, rfl⟩
  go_wp2_with fail
  refine (at_FUNC_out a fA c1 hn ha).mono ?_
  rintro e w1 ⟨rfl, rfl⟩
  go_wp2_with fail
  exact bodyPost_ret (v := .tuple #[.agg #[.slice none 0 0, .slice none 0 0, .bool false, .string { data := #[] }, .int .i64 0, .int .i64 0], .int .i64 11]) (by simp [results, Tryz.results14, go_sem, u0, u1, u2, u3, u4, u5]) rfl ⟨rfl, HK4.out⟩
end
end Go.Proofs.YtlnkdnmeikpckaaGreat
namespace Go.Proofs.YtlnkdnmeikpckaaGreat.T20
open Go.RowKit
set_option maxRecDepth 100000
theorem Tryz.infoV : (Tryz.prog.info? 65).map (fun i => (i.zero, i.size, i.bytes)) = some (some (.agg #[.int .u8 0, .int .u64 0, .int .u64 0]), 3, 24) := by kernel_rfl
def tabCells (el mn mx : Int) (bd : Bool) (lv : Value) : Array Value := #[.bool true, .int .u8 el, .int .u32 mn, .int .u32 mx, .bool bd, lv]
def AnyV : Value → Prop := fun _ => True
structure TabAt (w : World) (tb base n : Nat) (el mn mx : Int) (bd : Bool) (lv : Value) (f : Nat → V3) : Prop where
  obj : Blk w tb 140 (tabCells el mn mx bd lv)
  own : Own w base 65 3 AnyV lv n (vcell f)
  lo : base ≤ tb
section
variable {w w' : World} {tb base n : Nat} {el mn mx : Int} {bd : Bool} {lv : Value} {f : Nat → V3}
theorem TabAt.c0 (h : TabAt w tb base n el mn mx bd lv f) : w.cell? ⟨tb, 0, none⟩ = some (.bool true) := h.obj.cell 0
theorem TabAt.c1 (h : TabAt w tb base n el mn mx bd lv f) : w.cell? ⟨tb, 1, none⟩ = some (.int .u8 el) := h.obj.cell 1
theorem TabAt.c3 (h : TabAt w tb base n el mn mx bd lv f) : w.cell? ⟨tb, 3, none⟩ = some (.int .u32 mx) := h.obj.cell 3
theorem TabAt.c4 (h : TabAt w tb base n el mn mx bd lv f) : w.cell? ⟨tb, 4, none⟩ = some (.bool bd) := h.obj.cell 4
theorem TabAt.c5 (h : TabAt w tb base n el mn mx bd lv f) : w.cell? ⟨tb, 5, none⟩ = some lv := h.obj.cell 5
theorem TabAt.ne (h : TabAt w tb base n el mn mx bd lv f) : lv.ownBlock ≠ some tb := by
  intro e
  rcases h.own with ⟨rfl, _⟩ | ⟨g, cap, fr, rfl, _, _, _, hr, _⟩
  · simp [Value.ownBlock] at e
  · have : g = tb := by simpa [Value.ownBlock] using e
    exact Row.ne hr h.obj (by decide) this
theorem TabAt.kept {S : Nat → Prop} (h : TabAt w tb base n el mn mx bd lv f) (hk : Kept S w w') (h1 : ¬ S tb) (h2 : ∀ g, lv.ownBlock = some g → ¬ S g) : TabAt w' tb base n el mn mx bd lv f := ⟨hk.blk h.obj h1, h.own.kept hk h2, h.lo⟩
theorem TabAt.kept0 (h : TabAt w tb base n el mn mx bd lv f) (hk : Kept S0 w w') : TabAt w' tb base n el mn mx bd lv f := h.kept hk (fun x => x) (fun _ _ x => x)
theorem TabAt.congr {g : Nat → V3} (h : TabAt w tb base n el mn mx bd lv f) (e : ∀ i, i < n → f i = g i) : TabAt w tb base n el mn mx bd lv g := ⟨h.obj, h.own.congr (vcell_congr e), h.lo⟩
theorem TabAt.drew (h : TabAt w tb base n el mn mx bd lv f) : TabAt w.drew tb base n el mn mx bd lv f := h.kept0 (Kept.refl S0 w).drew
end
set_option maxHeartbeats 400000 in
theorem off_made (tb : Nat) (w : World) (h0 : w.cell? ⟨tb, 0, none⟩ = some (.bool true)) :
    Calls Tryz.prog 44 #[.pointer (some ⟨tb, 0, none⟩)] w fun e w' => e = .returned (.bool false) ∧ w = w' := by
  go_enter Tryz.func44, Tryz.ntmps44
  go_wp2
  go_ret
  exact ⟨rfl, rfl⟩
set_option maxHeartbeats 400000 in
theorem size_made (tb : Nat) (w : World) (A : Option Addr) (n c : Nat) (h0 : w.cell? ⟨tb, 0, none⟩ = some (.bool true)) (h5 : w.cell? ⟨tb, 5, none⟩ = some (.slice A n c)) (hn : n ≤ 16384) :
    Calls Tryz.prog 45 #[.pointer (some ⟨tb, 0, none⟩)] w fun e w' => e = .returned (.int .u32 (n : Int)) ∧ w = w' := by
  go_enter Tryz.func45, Tryz.ntmps45
  go_wp2_with (go_at_call 44; refine (off_made _ _ (by assumption)).mono ?_; rintro e w' ⟨rfl, rfl⟩)
  go_ret
  exact ⟨ret_int (by simp <;> omega), rfl⟩
/-- Are n there, from a place on? -/
def inB (at_ n all : Int) : Bool := decide (at_ + n ≤ all)
theorem inB_true {a n N : Nat} (h : a + n ≤ N) : inB a n N = true := by unfold inB; exact decide_eq_true (by omega)
set_option maxHeartbeats 400000 in
theorem within_any (at_ n all : Int) (w : World) (h1 : 0 ≤ at_) (h2 : 0 ≤ n) (h3 : 0 ≤ all) (h4 : all ≤ 9223372036854775807) (h5 : at_ ≤ 4294967295) (h6 : n ≤ 4294967295) :
    Calls Tryz.prog 132 #[.int .u32 at_, .int .u32 n, .int .i64 all] w fun e w' => e = .returned (.bool (inB at_ n all)) ∧ w = w' := by
  have hw : IntKind.u64.wrap all = all := IntWalk.u64_in _ (by omega)
  have hw1 : IntKind.u64.wrap at_ = at_ := IntWalk.u64_in _ (by omega)
  have hw2 : IntKind.u64.wrap n = n := IntWalk.u64_in _ (by omega)
  have hw3 : IntKind.u64.wrap (at_ + n) = at_ + n := IntWalk.u64_in _ (by omega)
  have HB := Lib.hid (show inB at_ n all = decide (at_ + n ≤ all) from rfl)
  go_enter Tryz.func132, Tryz.ntmps132
  go_wp2
  go_ret
  exact ⟨ret_bool (by rw [HB.out]), rfl⟩
/-- A reference that may be. -/
def refB (lo hi : Int) : Bool := (hi == 0) && decide (lo ≤ 4294967296)
/-- Does a value fit a reference's type? -/
def fitB (t lo hi el : Int) : Bool := (t == el) && refB lo hi
set_option maxHeartbeats 800000 in
theorem has_ref (t lo hi : Int) (w : World) (ht : t = 112 ∨ t = 111) : Calls Tryz.prog 81 #[.agg #[.int .u8 t, .int .u64 lo, .int .u64 hi]] w fun e w' => e = .returned (.bool (refB lo hi)) ∧ Kept S0 w w' := by
  by_cases hh : hi = 0
  · subst hh
    have HB := Lib.hid (show refB lo 0 = decide (lo ≤ 4294967296) by simp [refB])
    rcases ht with rfl | rfl
    all_goals
      go_enter Tryz.func81, Tryz.ntmps81
      go_wp2
      go_ret
      exact ⟨ret_bool (by rw [HB.out]), (by repeat (first | exact Kept.refl _ _ | assumption | refine Kept.drew ?_ | refine Kept.alloc ?_ _ | refine Kept.setCell ?_ (.inr (by first | exact Nat.le_refl _ | (simp; done) | omega | (simp; omega))) _))⟩
  · have h0 : (hi == 0) = false := beq_eq_false_iff_ne.2 hh
    have HB := Lib.hid (show refB lo hi = false by simp [refB, hh])
    clear hh
    rcases ht with rfl | rfl
    all_goals
      go_enter Tryz.func81, Tryz.ntmps81
      go_wp2
      go_ret
      exact ⟨ret_bool (by rw [HB.out]), (by repeat (first | exact Kept.refl _ _ | assumption | refine Kept.drew ?_ | refine Kept.alloc ?_ _ | refine Kept.setCell ?_ (.inr (by first | exact Nat.le_refl _ | (simp; done) | omega | (simp; omega))) _))⟩
set_option maxHeartbeats 800000 in
theorem fits_ref (t lo hi el : Int) (w : World) (he : el = 112 ∨ el = 111) : Calls Tryz.prog 124 #[.agg #[.int .u8 t, .int .u64 lo, .int .u64 hi], .int .u8 el] w fun e w' => e = .returned (.bool (fitB t lo hi el)) ∧ Kept S0 w w' := by
  by_cases ht : t = el
  · subst ht
    have h1 : (t == t) = true := beq_self_eq_true t
    have HB := Lib.hid (show fitB t lo hi t = refB lo hi by simp [fitB])
    have HE := Lib.hid he
    clear he
    go_enter Tryz.func124, Tryz.ntmps124
    go_wp2_with fail
    refine (has_ref t lo hi _ HE.out).mono ?_
    rintro e w1 ⟨rfl, hk⟩
    go_wp2_with fail
    go_ret
    exact ⟨ret_bool (by rw [HB.out]), ((Kept.refl S0 w).alloc _).then0 hk⟩
  · have h1 : (t == el) = false := beq_eq_false_iff_ne.2 ht
    have HB := Lib.hid (show fitB t lo hi el = false by simp [fitB, ht])
    clear he ht
    go_enter Tryz.func124, Tryz.ntmps124
    go_wp2_with fail
    go_ret
    exact ⟨ret_bool (by rw [HB.out]), (by repeat (first | exact Kept.refl _ _ | assumption | refine Kept.drew ?_ | refine Kept.alloc ?_ _ | refine Kept.setCell ?_ (.inr (by first | exact Nat.le_refl _ | (simp; done) | omega | (simp; omega))) _))⟩
end Go.Proofs.YtlnkdnmeikpckaaGreat.T20
namespace Go.Proofs.YtlnkdnmeikpckaaGreat.T20
open Go.RowKit
set_option maxRecDepth 100000
theorem afterV_step (n j : Nat) (f : Nat → V3) (x : V3) : afterV (n + j) (afterV n f (fun _ => x)) (fun _ => x) = afterV n f (fun _ => x) := by
  funext i
  unfold afterV
  by_cases h : i < n + j
  · rw [if_pos h]
  · rw [if_neg h, if_neg (by omega)]
/-- The blocks that a table may write. -/
def ST (tb : Nat) (lv : Value) : Nat → Prop := fun i => i = tb ∨ lv.ownBlock = some i
structure MoreRel (w wr : World) (tb base n : Nat) (el mn mx : Int) (bd : Bool) (lv lj : Value) (f : Nat → V3) (x : V3) (j : Nat) : Prop where
  tab : TabAt wr tb base (n + j) el mn mx bd lj (afterV n f (fun _ => x))
  kept : Kept (ST tb lv) w wr
  block : lj.ownBlock = lv.ownBlock ∨ ∃ g, lj.ownBlock = some g ∧ w.heap.size < g
  box : Blk wr w.heap.size 65 #[.int .u8 x.t, .int .u64 x.lo, .int .u64 x.hi]
set_option maxHeartbeats 1600000 in
theorem more_any (tb base n k : Nat) (el mn mx : Int) (bd : Bool) (lv : Value) (f : Nat → V3) (x : V3) (w : World) (hm : TabAt w tb base n el mn mx bd lv f) (hn : n + k ≤ 16384) (hb : base ≤ w.heap.size) :
    Calls Tryz.prog 125 #[.pointer (some ⟨tb, 0, none⟩), .int .i64 (k : Int), .agg #[.int .u8 x.t, .int .u64 x.lo, .int .u64 x.hi]] w fun e w' => e = .returned (.tuple #[]) ∧ ∃ lj, TabAt w' tb base (n + k) el mn mx bd lj (afterV n f (fun _ => x)) ∧ Kept (ST tb lv) w w' ∧ (lj.ownBlock = lv.ownBlock ∨ ∃ g, lj.ownBlock = some g ∧ w.heap.size ≤ g) := by
  have hB := Blk.new w 65 #[.int .u8 x.t, .int .u64 x.lo, .int .u64 x.hi]
  go_enter Tryz.func125, Tryz.ntmps125
  go_wp2_with fail
  go_loopw [7] (fun i wr => ∃ j : Nat, j ≤ k ∧ i = .int .i64 (j : Int) ∧ ∃ lj, MoreRel w wr tb base n el mn mx bd lv lj f x j) (fun i _ => k - (intOf i).toNat)
  case atStart => exact ⟨0, by omega, rfl, lv, (hm.kept0 ((Kept.refl S0 w).alloc _)).congr (fun i hi => by unfold afterV; rw [if_pos (by omega)]), (Kept.refl _ w).alloc _, .inl rfl, hB⟩
  case round =>
    obtain ⟨j, hj, rfl, lj, hr⟩ := hrel
    by_cases hlt : j < k
    · obtain ⟨A, c, rfl, hnc, hcm, hsl⟩ := hr.tab.own.out
      have c5 := hr.tab.c5
      have z5 := hr.tab.obj.frozen 5
      have b0 := hr.box.cell 0
      have b1 := hr.box.cell 1
      have b2 := hr.box.cell 2
      have hlt1 := hr.tab.obj.lt
      have hlt2 := hr.box.lt
      go_wp2_with fail
      have hka : Kept S0 wr (wr.alloc (.cells #[.int .u8 x.t, .int .u64 x.lo, .int .u64 x.hi] 65)) := (Kept.refl S0 wr).alloc _
      have hown1 := hr.tab.own.kept hka (fun _ _ h => h)
      have hB1 := Blk.new wr 65 #[.int .u8 x.t, .int .u64 x.lo, .int .u64 x.hi]
      have hsl1 : Sl (wr.alloc (.cells #[.int .u8 x.t, .int .u64 x.lo, .int .u64 x.hi] 65)) (some ⟨wr.heap.size, 0, none⟩) (1 * 3) (vcell (fun _ => x)) := fun _ => ⟨wr.heap.size, 0, rfl, fun i hi => by
        match i, hi with
        | 0, _ => exact hB1.cell 0
        | 1, _ => exact hB1.cell 1
        | 2, _ => exact hB1.cell 2⟩
      have HR := Lib.hid hr
      have hobj1 := hr.tab.obj.alloc (.cells #[.int .u8 x.t, .int .u64 x.lo, .int .u64 x.hi] 65)
      have hne := hr.tab.ne
      have hsz : base ≤ (wr.alloc (.cells #[.int .u8 x.t, .int .u64 x.lo, .int .u64 x.hi] 65)).heap.size := Nat.le_trans hb (Nat.le_trans hr.kept.size hka.size)
      clear hr hsl
      go_region_law (refine step_append_all rfl (.tmp 13) (.tmp 15) 70 rfl base 65 (.agg #[.int .u8 0, .int .u64 0, .int .u64 0]) 3 24 Tryz.underlying70 Tryz.infoV rfl (by decide) AnyV (fun _ _ => trivial) _ (n + j) (vcell (afterV n f (fun _ => x))) rfl hown1 (some ⟨wr.heap.size, 0, none⟩) 1 1 (vcell (fun _ => x)) rfl hsl1 (fun h => by cases h) (fun _ _ => trivial) (fun _ _ => vcell_one _ _) (by unfold maxLen; omega) (by omega) hsz ?_; intro v' w' ha; obtain ⟨A', c', rfl, _, _, _⟩ := ha.own.out; have hB5 := ha.grown.block tb (Nat.lt_of_lt_of_le hlt1 hka.size) (fun e => hne e.symm); have hB6 : Blk w' tb 140 _ := hB5.trans hobj1; have d5 : w'.cell? ⟨tb, 5, none⟩ = some (.slice A (n + j) c) := hB6.cell 5; have y5 := hB6.frozen 5; have HA := Lib.hid ha; clear ha hB5)
      go_wp2_with fail
      all_goals
       (go_roundw
        case rel =>
          have hap := HA.out
          have hrr := HR.out
          have hown2 : Own w' base 65 3 AnyV (.slice A' (n + j + 1) c') (n + j + 1) (vcell (afterV n f (fun _ => x))) := by
            have h := hap.own
            rw [after_vcell, afterV_step] at h
            exact h
          have hne2 := hown2.ne_blk hB6 (by decide)
          have hlvb : ∀ g, (Value.slice A (n + j) c).ownBlock = some g → lv.ownBlock = some g ∨ w.heap.size < g := fun g hg => by
            rcases hrr.block with hb1 | ⟨g', hb1, hb2⟩
            · exact .inl (hb1 ▸ hg)
            · rw [hb1] at hg; cases hg; exact .inr hb2
          have hkW : Kept (ST tb lv) w w' := (hrr.kept.then0 hka).grown ⟨hap.grown.os, hap.grown.tape, hap.grown.output, hap.grown.size, hap.grown.block⟩ (fun g hg => (hlvb g hg).imp (fun h => .inr h) Nat.le_of_lt)
          have hbox : Blk w' w.heap.size 65 #[.int .u8 x.t, .int .u64 x.lo, .int .u64 x.hi] := (hap.grown.block w.heap.size (Nat.lt_of_lt_of_le hlt2 hka.size) (fun e => by
            rcases hlvb _ e.symm with h | h
            · have := (hm.own.lt _ h).2; omega
            · omega)).trans (hrr.box.alloc _)
          refine ⟨j + 1, by omega, by go_num, _, ⟨hB6.set_ 5 _, ?_, hm.lo⟩, hkW.setCell (p := ⟨tb, 5, none⟩) (.inl (.inl rfl)) _, ?_, hbox.far (p := ⟨tb, 5, none⟩) (fun e => by have h1 : w.heap.size = tb := e; have := hm.obj.lt; omega) _⟩
          · exact hown2.kept ((Kept.refl (S1 tb) w').setCell (p := ⟨tb, 5, none⟩) (.inl rfl) _) (fun g hg e => hne2 (by rw [hg]; exact congrArg some e))
          · rcases hap.block with h | h
            · rcases hrr.block with h1 | ⟨g', h1, h2⟩
              · exact .inl (h.trans h1)
              · exact .inr ⟨g', h.trans h1, h2⟩
            · exact .inr ⟨_, h, Nat.lt_of_lt_of_le hlt2 hka.size⟩
        case measure => simp [intOf]; omega)
    · obtain rfl : j = k := by omega
      go_wp2_with fail
      go_end0
      exact ⟨rfl, lj, hr.tab, hr.kept, hr.block.imp id (fun ⟨g, h1, h2⟩ => ⟨g, h1, Nat.le_of_lt h2⟩)⟩
end Go.Proofs.YtlnkdnmeikpckaaGreat.T20
