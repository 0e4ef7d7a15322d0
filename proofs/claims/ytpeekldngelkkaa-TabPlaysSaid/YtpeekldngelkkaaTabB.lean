/- The contract of a table's more. No condition. -/
import Derived.Test.YtpeekldngelkkaaTabA
import Derived.StillTailTactics
namespace Go.Proofs.Ytpeekldngelkkaa
open Go.RowKit

theorem afterV_step (n j : Nat) (f : Nat → V3) (x : V3) : afterV (n + j) (afterV n f (fun _ => x)) (fun _ => x) = afterV n f (fun _ => x) := by
  funext i
  unfold afterV
  by_cases h : i < n + j
  · rw [if_pos h]
  · rw [if_neg h, if_neg (by omega)]

/-- The blocks that a table may write. -/
def ST (tb : Nat) (lv : Value) : Nat → Prop := fun i => i = tb ∨ lv.ownBlock = some i

structure MoreRel (w wr : World) (tb base n : Nat) (el mn mx : Int) (bd : Bool) (lv lj : Value) (f : Nat → V3) (x : V3) (j : Nat) : Prop where
  tab : TabAt wr tb base (n + j) el mn mx bd lj (afterV n f (fun _ => x))
  kept : Kept (ST tb lv) w wr
  block : lj.ownBlock = lv.ownBlock ∨ ∃ g, lj.ownBlock = some g ∧ w.heap.size < g
  box : Blk wr w.heap.size 43 #[.int .u8 x.t, .int .u64 x.lo, .int .u64 x.hi]

set_option maxHeartbeats 1600000 in
theorem more_any (tb base n k : Nat) (el mn mx : Int) (bd : Bool) (lv : Value) (f : Nat → V3) (x : V3) (w : World) (hm : TabAt w tb base n el mn mx bd lv f) (hn : n + k ≤ 16384) (hb : base ≤ w.heap.size) :
    Calls Try.prog 32 #[.pointer (some ⟨tb, 0, none⟩), .int .i64 (k : Int), .agg #[.int .u8 x.t, .int .u64 x.lo, .int .u64 x.hi]] w fun e w' => e = .returned (.tuple #[]) ∧ ∃ lj, TabAt w' tb base (n + k) el mn mx bd lj (afterV n f (fun _ => x)) ∧ Kept (ST tb lv) w w' ∧ (lj.ownBlock = lv.ownBlock ∨ ∃ g, lj.ownBlock = some g ∧ w.heap.size ≤ g) := by
  have hB := Blk.new w 43 #[.int .u8 x.t, .int .u64 x.lo, .int .u64 x.hi]
  go_enter Try.func32, Try.ntmps32
  go_wp2_with fail
  go_loopw [7] (fun i wr => ∃ j : Nat, j ≤ k ∧ i = .int .i64 (j : Int) ∧ ∃ lj, MoreRel w wr tb base n el mn mx bd lv lj f x j) (fun i _ => k - (intOf i).toNat)
  case atStart => exact ⟨0, by omega, rfl, lv, (hm.kept0 ((Kept.refl S0 w).alloc _)).congr (fun i hi => by unfold afterV; rw [if_pos (by omega)]), (Kept.refl _ w).alloc _, .inl rfl, hB⟩
  case round =>
    obtain ⟨j, hj, rfl, lj, hr⟩ := hrel
    by_cases hlt : j < k
    · obtain ⟨A, c, rfl, hnc, hcm, hsl⟩ := hr.tab.own.out
      have c5 := hr.tab.c5
      have z5 := hr.tab.obj.frozen 5
      have b0 := hr.box.cell 0
      have b1 := hr.box.cell 1
      have b2 := hr.box.cell 2
      have hlt1 := hr.tab.obj.lt
      have hlt2 := hr.box.lt
      go_wp2_with fail
      have hka : Kept S0 wr (wr.alloc (.cells #[.int .u8 x.t, .int .u64 x.lo, .int .u64 x.hi] 43)) := (Kept.refl S0 wr).alloc _
      have hown1 := hr.tab.own.kept hka (fun _ _ h => h)
      have hB1 := Blk.new wr 43 #[.int .u8 x.t, .int .u64 x.lo, .int .u64 x.hi]
      have hsl1 : Sl (wr.alloc (.cells #[.int .u8 x.t, .int .u64 x.lo, .int .u64 x.hi] 43)) (some ⟨wr.heap.size, 0, none⟩) (1 * 3) (vcell (fun _ => x)) := fun _ => ⟨wr.heap.size, 0, rfl, fun i hi => by
        match i, hi with
        | 0, _ => exact hB1.cell 0
        | 1, _ => exact hB1.cell 1
        | 2, _ => exact hB1.cell 2⟩
      have HR := Lib.hid hr
      have hobj1 := hr.tab.obj.alloc (.cells #[.int .u8 x.t, .int .u64 x.lo, .int .u64 x.hi] 43)
      have hne := hr.tab.ne
      have hsz : base ≤ (wr.alloc (.cells #[.int .u8 x.t, .int .u64 x.lo, .int .u64 x.hi] 43)).heap.size := Nat.le_trans hb (Nat.le_trans hr.kept.size hka.size)
      clear hr hsl
      go_region_law (refine step_append_all rfl (.tmp 13) (.tmp 15) 24 rfl base 43 (.agg #[.int .u8 0, .int .u64 0, .int .u64 0]) 3 24 Try.underlying24 Try.infoV rfl (by decide) AnyV (fun _ _ => trivial) _ (n + j) (vcell (afterV n f (fun _ => x))) rfl hown1 (some ⟨wr.heap.size, 0, none⟩) 1 1 (vcell (fun _ => x)) rfl hsl1 (fun h => by cases h) (fun _ _ => trivial) (fun _ _ => vcell_one _ _) (by unfold maxLen; omega) (by omega) hsz ?_; intro v' w' ha; obtain ⟨A', c', rfl, _, _, _⟩ := ha.own.out; have hB5 := ha.grown.block tb (Nat.lt_of_lt_of_le hlt1 hka.size) (fun e => hne e.symm); have hB6 : Blk w' tb 67 _ := hB5.trans hobj1; have d5 : w'.cell? ⟨tb, 5, none⟩ = some (.slice A (n + j) c) := hB6.cell 5; have y5 := hB6.frozen 5; have HA := Lib.hid ha; clear ha hB5)
      go_wp2_with fail
      all_goals
       (go_roundw
        case rel =>
          have hap := HA.out
          have hrr := HR.out
          have hown2 : Own w' base 43 3 AnyV (.slice A' (n + j + 1) c') (n + j + 1) (vcell (afterV n f (fun _ => x))) := by
            have h := hap.own
            rw [after_vcell, afterV_step] at h
            exact h
          have hne2 := hown2.ne_blk hB6 (by decide)
          have hlvb : ∀ g, (Value.slice A (n + j) c).ownBlock = some g → lv.ownBlock = some g ∨ w.heap.size < g := fun g hg => by
            rcases hrr.block with hb1 | ⟨g', hb1, hb2⟩
            · exact .inl (hb1 ▸ hg)
            · rw [hb1] at hg; cases hg; exact .inr hb2
          have hkW : Kept (ST tb lv) w w' := (hrr.kept.then0 hka).grown ⟨hap.grown.os, hap.grown.tape, hap.grown.output, hap.grown.size, hap.grown.block⟩ (fun g hg => (hlvb g hg).imp (fun h => .inr h) Nat.le_of_lt)
          have hbox : Blk w' w.heap.size 43 #[.int .u8 x.t, .int .u64 x.lo, .int .u64 x.hi] := (hap.grown.block w.heap.size (Nat.lt_of_lt_of_le hlt2 hka.size) (fun e => by
            rcases hlvb _ e.symm with h | h
            · have := (hm.own.lt _ h).2; omega
            · omega)).trans (hrr.box.alloc _)
          refine ⟨j + 1, by omega, by go_num, _, ⟨hB6.set_ 5 _, ?_, hm.lo⟩, hkW.setCell (p := ⟨tb, 5, none⟩) (.inl (.inl rfl)) _, ?_, hbox.far (p := ⟨tb, 5, none⟩) (fun e => by have h1 : w.heap.size = tb := e; have := hm.obj.lt; omega) _⟩
          · exact hown2.kept ((Kept.refl (S1 tb) w').setCell (p := ⟨tb, 5, none⟩) (.inl rfl) _) (fun g hg e => hne2 (by rw [hg]; exact congrArg some e))
          · rcases hap.block with h | h
            · rcases hrr.block with h1 | ⟨g', h1, h2⟩
              · exact .inl (h.trans h1)
              · exact .inr ⟨g', h.trans h1, h2⟩
            · exact .inr ⟨_, h, Nat.lt_of_lt_of_le hlt2 hka.size⟩
        case measure => simp [intOf]; omega)
    · obtain rfl : j = k := by omega
      go_wp2_with fail
      go_end0
      exact ⟨rfl, lj, hr.tab, hr.kept, hr.block.imp id (fun ⟨g, h1, h2⟩ => ⟨g, h1, Nat.le_of_lt h2⟩)⟩
end Go.Proofs.Ytpeekldngelkkaa
