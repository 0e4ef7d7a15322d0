/- Contracts of the document's tables: New, Get, Grow. No condition. -/
import Derived.Test.YtpeekldngelkkaaRefA
import Derived.Test.YtpeekldngelkkaaTabG
namespace Go.Proofs.Ytpeekldngelkkaa
open Go.RowKit

def refCells (el mn mx : Int) (bd : Bool) (lv : Value) : Array Value := #[.int .u8 el, .int .u32 mn, .int .u32 mx, .bool bd, lv]

/-- One of the document's tables, known. -/
structure RefAt (w : World) (tb base n : Nat) (el mn mx : Int) (bd : Bool) (lv : Value) (f : Nat → V3) : Prop where
  obj : Blk w tb 77 (refCells el mn mx bd lv)
  own : Own w base 43 3 AnyV lv n (vcell f)
  lo : base ≤ tb

section
variable {w w' : World} {tb base n : Nat} {el mn mx : Int} {bd : Bool} {lv : Value} {f : Nat → V3}
theorem RefAt.c0 (h : RefAt w tb base n el mn mx bd lv f) : w.cell? ⟨tb, 0, none⟩ = some (.int .u8 el) := h.obj.cell 0
theorem RefAt.c1 (h : RefAt w tb base n el mn mx bd lv f) : w.cell? ⟨tb, 1, none⟩ = some (.int .u32 mn) := h.obj.cell 1
theorem RefAt.c2 (h : RefAt w tb base n el mn mx bd lv f) : w.cell? ⟨tb, 2, none⟩ = some (.int .u32 mx) := h.obj.cell 2
theorem RefAt.c3 (h : RefAt w tb base n el mn mx bd lv f) : w.cell? ⟨tb, 3, none⟩ = some (.bool bd) := h.obj.cell 3
theorem RefAt.c4 (h : RefAt w tb base n el mn mx bd lv f) : w.cell? ⟨tb, 4, none⟩ = some lv := h.obj.cell 4
theorem RefAt.ne (h : RefAt w tb base n el mn mx bd lv f) : lv.ownBlock ≠ some tb := h.own.ne_blk h.obj (by decide)
theorem RefAt.kept {S : Nat → Prop} (h : RefAt w tb base n el mn mx bd lv f) (hk : Kept S w w') (h1 : ¬ S tb) (h2 : ∀ g, lv.ownBlock = some g → ¬ S g) : RefAt w' tb base n el mn mx bd lv f := ⟨hk.blk h.obj h1, h.own.kept hk h2, h.lo⟩
theorem RefAt.kept0 (h : RefAt w tb base n el mn mx bd lv f) (hk : Kept S0 w w') : RefAt w' tb base n el mn mx bd lv f := h.kept hk (fun x => x) (fun _ _ x => x)
theorem RefAt.congr {g : Nat → V3} (h : RefAt w tb base n el mn mx bd lv f) (e : ∀ i, i < n → f i = g i) : RefAt w tb base n el mn mx bd lv g := ⟨h.obj, h.own.congr (vcell_congr e), h.lo⟩
theorem RefAt.drew (h : RefAt w tb base n el mn mx bd lv f) : RefAt w.drew tb base n el mn mx bd lv f := h.kept0 (Kept.refl S0 w).drew
theorem RefAt.drewN (h : RefAt w tb base n el mn mx bd lv f) (q : Nat) : RefAt (w.drewN q) tb base n el mn mx bd lv f := h.kept0 ((Kept.refl S0 w).drewN q)

set_option maxHeartbeats 800000 in
theorem rget_in (k : Nat) (hm : RefAt w tb base n el mn mx bd lv f) (hN : n ≤ 16384) (hk : k < n) :
    Calls Try.prog 37 #[.pointer (some ⟨tb, 0, none⟩), .int .u32 (k : Int)] w fun e w' => e = .returned (.tuple #[.agg #[.int .u8 (f k).t, .int .u64 (f k).lo, .int .u64 (f k).hi], .int .i64 0]) ∧ Kept S0 w w' := by
  rcases hm.own with ⟨_, h0⟩ | ⟨g, cap, fr, rfl, hbg, hNc, hcm, hrow, hF, hQ⟩
  · omega
  have u1 : IntKind.u64.wrap (k : Int) = (k : Int) := IntWalk.u64_in _ (by omega)
  have u2 : IntKind.u64.wrap (n : Int) = (n : Int) := IntWalk.u64_in _ (by omega)
  have hka : Kept S0 w (w.alloc (.cells #[.int .u8 0, .int .u64 0, .int .u64 0] 43)) := (Kept.refl S0 w).alloc _
  have hm1 := hm.kept0 hka
  have c4 := hm1.c4
  have hrow1 := hka.row hrow (fun x => x)
  have d0 : (w.alloc (.cells #[.int .u8 0, .int .u64 0, .int .u64 0] 43)).cell? ⟨g, k * 3, none⟩ = some (.int .u8 (f k).t) := by rw [← vcell_0, ← hF _ (by omega)]; exact hrow1.cell (by omega)
  have d1 : (w.alloc (.cells #[.int .u8 0, .int .u64 0, .int .u64 0] 43)).cell? ⟨g, k * 3 + 1, none⟩ = some (.int .u64 (f k).lo) := by rw [← vcell_1, ← hF _ (by omega)]; exact hrow1.cell (by omega)
  have d2 : (w.alloc (.cells #[.int .u8 0, .int .u64 0, .int .u64 0] 43)).cell? ⟨g, k * 3 + 2, none⟩ = some (.int .u64 (f k).hi) := by rw [← vcell_2, ← hF _ (by omega)]; exact hrow1.cell (by omega)
  clear hm hm1 hrow hrow1 hF hQ
  go_enter Try.func37, Try.ntmps37
  have hB := Blk.new w 43 #[.int .u8 (f k).t, .int .u64 (f k).lo, .int .u64 (f k).hi]
  have r0 := hB.cell 0
  have r1 := hB.cell 1
  have r2 := hB.cell 2
  go_wp2_with fail
  exact bodyPost_ret (v := .tuple #[.agg #[.int .u8 (f k).t, .int .u64 (f k).lo, .int .u64 (f k).hi], .int .i64 0]) (by simp [results, Try.results37, go_sem, r0, r1, r2]) rfl ⟨rfl, (by repeat (first | exact Kept.refl _ _ | assumption | refine Kept.drew ?_ | refine Kept.alloc ?_ _ | refine Kept.setCell ?_ (.inr (by first | exact Nat.le_refl _ | (simp; done) | omega | (simp; omega))) _))⟩

set_option maxHeartbeats 800000 in
theorem rget_out (k : Nat) (hm : RefAt w tb base n el mn mx bd lv f) (hN : n ≤ 16384) (hk : n ≤ k) (hk2 : k ≤ 4294967295) :
    Calls Try.prog 37 #[.pointer (some ⟨tb, 0, none⟩), .int .u32 (k : Int)] w fun e w' => e = .returned (.tuple #[.agg #[.int .u8 0, .int .u64 0, .int .u64 0], .int .i64 6]) ∧ Kept S0 w w' := by
  obtain ⟨A, c, rfl, _, _, _⟩ := hm.own.out
  have u1 : IntKind.u64.wrap (k : Int) = (k : Int) := IntWalk.u64_in _ (by omega)
  have u2 : IntKind.u64.wrap (n : Int) = (n : Int) := IntWalk.u64_in _ (by omega)
  have hka : Kept S0 w (w.alloc (.cells #[.int .u8 0, .int .u64 0, .int .u64 0] 43)) := (Kept.refl S0 w).alloc _
  have hm1 := hm.kept0 hka
  have c4 := hm1.c4
  have hB := Blk.new w 43 #[.int .u8 0, .int .u64 0, .int .u64 0]
  have r0 := hB.cell 0
  have r1 := hB.cell 1
  have r2 := hB.cell 2
  clear hm hm1 hB
  go_enter Try.func37, Try.ntmps37
  go_wp2_with fail
  exact bodyPost_ret (v := .tuple #[.agg #[.int .u8 0, .int .u64 0, .int .u64 0], .int .i64 6]) (by simp [results, Try.results37, go_sem, r0, r1, r2]) rfl ⟨rfl, hka⟩

set_option maxHeartbeats 1600000 in
theorem rgrow_bad (k : Int) (x : V3) (hm : RefAt w tb base n el mn mx bd lv f) (hel : el = 112 ∨ el = 111) (hf : fitB x.t x.lo x.hi el = false) :
    Calls Try.prog 39 #[.pointer (some ⟨tb, 0, none⟩), .int .u32 k, .agg #[.int .u8 x.t, .int .u64 x.lo, .int .u64 x.hi]] w fun e w' => e = .returned (.tuple #[.int .u32 0, .int .i64 2]) ∧ Kept S0 w w' := by
  have hka : Kept S0 w (w.alloc (.cells #[.int .u8 x.t, .int .u64 x.lo, .int .u64 x.hi] 43)) := (Kept.refl S0 w).alloc _
  have hm1 := hm.kept0 hka
  have c0 := hm1.c0
  have hB := Blk.new w 43 #[.int .u8 x.t, .int .u64 x.lo, .int .u64 x.hi]
  have e0 : (w.alloc (.cells #[.int .u8 x.t, .int .u64 x.lo, .int .u64 x.hi] 43)).cell? ⟨w.heap.size, 0, none⟩ = some (.int .u8 x.t) := hB.cell 0
  have e1 : (w.alloc (.cells #[.int .u8 x.t, .int .u64 x.lo, .int .u64 x.hi] 43)).cell? ⟨w.heap.size, 1, none⟩ = some (.int .u64 x.lo) := hB.cell 1
  have e2 : (w.alloc (.cells #[.int .u8 x.t, .int .u64 x.lo, .int .u64 x.hi] 43)).cell? ⟨w.heap.size, 2, none⟩ = some (.int .u64 x.hi) := hB.cell 2
  have HF := Lib.hid hf
  have HE := Lib.hid hel
  clear hm hm1 hB hf hel
  go_enter Try.func39, Try.ntmps39
  go_wp2_with fail
  generalize hw1 : w.alloc (.cells #[.int .u8 x.t, .int .u64 x.lo, .int .u64 x.hi] 43) = w1 at *
  have HW := Lib.hid hw1
  clear hw1
  go_still_tail 6, (by kernel_rfl)
  change wpList _ _ _ _ _ (World.drew _)
  go_wp2_with fail
  refine (ris_ref x.t x.lo x.hi el _ HE.out).mono ?_
  rintro e w2 ⟨rfl, hk⟩
  rw [HF.out]
  have hk1 := hka.drew.then0 hk
  go_wp2_with fail
  go_ret2
  exact ⟨rfl, hk1⟩

set_option maxHeartbeats 1600000 in
theorem rgrow_no (k : Nat) (x : V3) (hm : RefAt w tb base n el mn mx bd lv f) (hN : n ≤ 16384) (hk : k ≤ 4294967295) (h3 : 0 ≤ mx) (h4 : mx ≤ 4294967295) (hel : el = 112 ∨ el = 111) (hf : fitB x.t x.lo x.hi el = true) (hg : growB n k mx bd = false) :
    Calls Try.prog 39 #[.pointer (some ⟨tb, 0, none⟩), .int .u32 (k : Int), .agg #[.int .u8 x.t, .int .u64 x.lo, .int .u64 x.hi]] w fun e w' => e = .returned (.tuple #[.int .u32 4294967295, .int .i64 0]) ∧ Kept S0 w w' := by
  have hka : Kept S0 w (w.alloc (.cells #[.int .u8 x.t, .int .u64 x.lo, .int .u64 x.hi] 43)) := (Kept.refl S0 w).alloc _
  have hm1 := hm.kept0 hka
  have c0 := hm1.c0
  have hB := Blk.new w 43 #[.int .u8 x.t, .int .u64 x.lo, .int .u64 x.hi]
  have e0 : (w.alloc (.cells #[.int .u8 x.t, .int .u64 x.lo, .int .u64 x.hi] 43)).cell? ⟨w.heap.size, 0, none⟩ = some (.int .u8 x.t) := hB.cell 0
  have e1 : (w.alloc (.cells #[.int .u8 x.t, .int .u64 x.lo, .int .u64 x.hi] 43)).cell? ⟨w.heap.size, 1, none⟩ = some (.int .u64 x.lo) := hB.cell 1
  have e2 : (w.alloc (.cells #[.int .u8 x.t, .int .u64 x.lo, .int .u64 x.hi] 43)).cell? ⟨w.heap.size, 2, none⟩ = some (.int .u64 x.hi) := hB.cell 2
  have HF := Lib.hid hf
  have HE := Lib.hid hel
  have HM := Lib.hid hm1
  have u1 : IntKind.u64.wrap (k : Int) = (k : Int) := IntWalk.u64_in _ (by omega)
  have u2 : IntKind.u64.wrap (n : Int) = (n : Int) := IntWalk.u64_in _ (by omega)
  have u3 : IntKind.u64.wrap ((n : Int) + (k : Int)) = (n : Int) + (k : Int) := IntWalk.u64_in _ (by omega)
  have u4 : IntKind.u64.wrap mx = mx := IntWalk.u64_in _ (by omega)
  have hg2 : decide ((16384 : Int) < (n : Int) + (k : Int)) = true ∨ (decide ((16384 : Int) < (n : Int) + (k : Int)) = false ∧ bd = true ∧ decide (mx < (n : Int) + (k : Int)) = true) := by
    unfold growB at hg
    by_cases h : n + k ≤ 16384
    · refine .inr ⟨decide_eq_false (by omega), ?_⟩
      rw [decide_eq_true h] at hg
      simp at hg
      exact ⟨hg.1, decide_eq_true (by omega)⟩
    · exact .inl (decide_eq_true (by omega))
  have HG := Lib.hid hg2
  clear hm hm1 hB hf hel hg hg2
  go_enter Try.func39, Try.ntmps39
  go_wp2_with fail
  generalize hw1 : w.alloc (.cells #[.int .u8 x.t, .int .u64 x.lo, .int .u64 x.hi] 43) = w1 at *
  have HW := Lib.hid hw1
  clear hw1
  go_still_tail 6, (by kernel_rfl)
  change wpList _ _ _ _ _ (World.drew _)
  go_wp2_with fail
  refine (ris_ref x.t x.lo x.hi el _ HE.out).mono ?_
  rintro e w2 ⟨rfl, hk⟩
  rw [HF.out]
  have hk1 := hka.drew.then0 hk
  have hm2 := HM.out.drew.kept0 hk
  obtain ⟨A, c, rfl, _, _, _⟩ := hm2.own.out
  have d2 := hm2.c2
  have d3 := hm2.c3
  have d4 := hm2.c4
  clear c0 e0 e1 e2 hm2
  rcases HG.out with g1 | ⟨g1, rfl, g2⟩
  all_goals
    go_wp2_with fail
    go_ret2
    exact ⟨rfl, hk1⟩

/-- How long a slice in a cell is. -/
def lenAt (w : World) (b i : Nat) : Nat := match w.cell? ⟨b, i, none⟩ with | some (.slice _ n _) => n | _ => 0
theorem lenAt_is {w : World} {b i m c : Nat} {A : Option Addr} (h : w.cell? ⟨b, i, none⟩ = some (.slice A m c)) : lenAt w b i = m := by unfold lenAt; rw [h]

structure RMoreRel (w wr : World) (tb base n : Nat) (el mn mx : Int) (bd : Bool) (lv lj : Value) (f : Nat → V3) (x : V3) (bx : Nat) (j : Nat) : Prop where
  tab : RefAt wr tb base (n + j) el mn mx bd lj (afterV n f (fun _ => x))
  kept : Kept (ST tb lv) w wr
  block : lj.ownBlock = lv.ownBlock ∨ ∃ g, lj.ownBlock = some g ∧ w.heap.size ≤ g
  box : Blk wr bx 43 #[.int .u8 x.t, .int .u64 x.lo, .int .u64 x.hi]
  sep : lj.ownBlock ≠ some bx
  far : tb ≠ bx

theorem RMoreRel.step {w wr w1 w' : World} {tb base n bx j c : Nat} {el mn mx : Int} {bd : Bool} {lv v' : Value} {A : Option Addr} {f : Nat → V3} {x : V3}
    (h : RMoreRel w wr tb base n el mn mx bd lv (.slice A (n + j) c) f x bx j) (hk1 : Kept S0 wr w1)
    (ha : Appended w1 w' base 43 3 AnyV (.slice A (n + j) c) v' (n + j + 1) (after ((n + j) * 3) (vcell (afterV n f (fun _ => x))) (vcell (fun _ => x))) 1) :
    RMoreRel w (w'.setCell ⟨tb, 4, none⟩ v') tb base n el mn mx bd lv v' f x bx (j + 1) := by
  have hobj1 := hk1.blk h.tab.obj (fun x => x)
  have hbox1 := hk1.blk h.box (fun x => x)
  have hown2 : Own w' base 43 3 AnyV v' (n + j + 1) (vcell (afterV n f (fun _ => x))) := by
    have h2 := ha.own
    rw [after_vcell, afterV_step] at h2
    exact h2
  have hB6 : Blk w' tb 77 _ := (ha.grown.block tb hobj1.lt (fun e => h.tab.ne e.symm)).trans hobj1
  have hbox : Blk w' bx 43 _ := (ha.grown.block bx hbox1.lt (fun e => h.sep e.symm)).trans hbox1
  have hne2 := hown2.ne_blk hB6 (by decide)
  have hkW : Kept (ST tb lv) w w' := (h.kept.then0 hk1).grown ⟨ha.grown.os, ha.grown.tape, ha.grown.output, ha.grown.size, ha.grown.block⟩ (fun g hg => by
    rcases h.block with hb1 | ⟨g', hb1, hb2⟩
    · exact .inl (.inr (hb1 ▸ hg))
    · rw [hb1] at hg; cases hg; exact .inr hb2)
  refine ⟨⟨hB6.set_ 4 _, hown2.kept ((Kept.refl (S1 tb) w').setCell (p := ⟨tb, 4, none⟩) (.inl rfl) _) (fun g hg e => hne2 (by rw [hg]; exact congrArg some e)), h.tab.lo⟩, hkW.setCell (p := ⟨tb, 4, none⟩) (.inl (.inl rfl)) _, ?_, hbox.far (p := ⟨tb, 4, none⟩) (fun e => h.far e.symm) _, ?_, h.far⟩
  · rcases ha.block with e | e
    · rcases h.block with h1 | ⟨g', h1, h2⟩
      · exact .inl (e.trans h1)
      · exact .inr ⟨g', e.trans h1, h2⟩
    · exact .inr ⟨_, e, Nat.le_trans h.kept.size hk1.size⟩
  · rcases ha.block with e | e
    · rw [e]; exact h.sep
    · rw [e]; intro e2; have e3 := Option.some.inj e2; have := hbox1.lt; omega

set_option maxHeartbeats 3200000 in
theorem rgrow_yes (k : Nat) (x : V3) (hm : RefAt w tb base n el mn mx bd lv f) (hN : n ≤ 16384) (hk : k ≤ 4294967295) (h3 : 0 ≤ mx) (h4 : mx ≤ 4294967295) (hel : el = 112 ∨ el = 111) (hf : fitB x.t x.lo x.hi el = true) (hg : growB n k mx bd = true) (hb : base ≤ w.heap.size) :
    Calls Try.prog 39 #[.pointer (some ⟨tb, 0, none⟩), .int .u32 (k : Int), .agg #[.int .u8 x.t, .int .u64 x.lo, .int .u64 x.hi]] w fun e w' => e = .returned (.tuple #[.int .u32 (n : Int), .int .i64 0]) ∧ ∃ lj, RefAt w' tb base (n + k) el mn mx bd lj (afterV n f (fun _ => x)) ∧ Kept (ST tb lv) w w' ∧ (lj.ownBlock = lv.ownBlock ∨ ∃ g, lj.ownBlock = some g ∧ w.heap.size ≤ g) := by
  have hka : Kept S0 w (w.alloc (.cells #[.int .u8 x.t, .int .u64 x.lo, .int .u64 x.hi] 43)) := (Kept.refl S0 w).alloc _
  have hm1 := hm.kept0 hka
  have c0 := hm1.c0
  have hB := Blk.new w 43 #[.int .u8 x.t, .int .u64 x.lo, .int .u64 x.hi]
  have e0 : (w.alloc (.cells #[.int .u8 x.t, .int .u64 x.lo, .int .u64 x.hi] 43)).cell? ⟨w.heap.size, 0, none⟩ = some (.int .u8 x.t) := hB.cell 0
  have e1 : (w.alloc (.cells #[.int .u8 x.t, .int .u64 x.lo, .int .u64 x.hi] 43)).cell? ⟨w.heap.size, 1, none⟩ = some (.int .u64 x.lo) := hB.cell 1
  have e2 : (w.alloc (.cells #[.int .u8 x.t, .int .u64 x.lo, .int .u64 x.hi] 43)).cell? ⟨w.heap.size, 2, none⟩ = some (.int .u64 x.hi) := hB.cell 2
  have hsum : n + k ≤ 16384 := by
    by_cases h : n + k ≤ 16384
    · exact h
    · unfold growB at hg; rw [decide_eq_false h] at hg; simp at hg
  have HF := Lib.hid hf
  have HE := Lib.hid hel
  have HM := Lib.hid hm1
  have HBX := Lib.hid hB
  have HS := Lib.hid (show lv.ownBlock ≠ some w.heap.size from fun e => by have := (hm.own.lt _ e).2; omega)
  have HT := Lib.hid (show tb ≠ w.heap.size from fun e => by have := hm.obj.lt; omega)
  have u1 : IntKind.u64.wrap (k : Int) = (k : Int) := IntWalk.u64_in _ (by omega)
  have u2 : IntKind.u64.wrap (n : Int) = (n : Int) := IntWalk.u64_in _ (by omega)
  have u3 : IntKind.u64.wrap ((n : Int) + (k : Int)) = (n : Int) + (k : Int) := IntWalk.u64_in _ (by omega)
  have u4 : IntKind.u64.wrap mx = mx := IntWalk.u64_in _ (by omega)
  have u5 : IntKind.i64.wrap ((n : Int) + (k : Int)) = (n : Int) + (k : Int) := IntWalk.i64_in _ (by omega)
  have u6 : IntKind.u32.wrap (n : Int) = (n : Int) := IntWalk.u32_in _ (by omega)
  have g1 : decide ((16384 : Int) < (n : Int) + (k : Int)) = false := decide_eq_false (by omega)
  have hg2 : bd = false ∨ (bd = true ∧ decide (mx < (n : Int) + (k : Int)) = false) := by
    cases bd with
    | false => exact .inl rfl
    | true =>
      refine .inr ⟨rfl, decide_eq_false ?_⟩
      unfold growB at hg
      simp at hg
      omega
  have HG := Lib.hid hg2
  clear hm hm1 hB hf hel hg hg2
  go_enter Try.func39, Try.ntmps39
  go_wp2_with fail
  generalize hw1 : w.alloc (.cells #[.int .u8 x.t, .int .u64 x.lo, .int .u64 x.hi] 43) = w1 at *
  have HW := Lib.hid hw1
  clear hw1
  go_still_tail 6, (by kernel_rfl)
  change wpList _ _ _ _ _ (World.drew _)
  go_wp2_with fail
  refine (ris_ref x.t x.lo x.hi el _ HE.out).mono ?_
  rintro e w2 ⟨rfl, hk⟩
  rw [HF.out]
  have hk1 := hka.drew.then0 hk
  have hm2 := HM.out.drew.kept0 hk
  have hb2 := hk.blk (((Kept.refl S0 w1).drew).blk HBX.out (fun x => x)) (fun x => x)
  obtain ⟨A, c, hlv, _, _, _⟩ := hm2.own.out
  have d2 := hm2.c2
  have d3 := hm2.c3
  have d4 := hm2.c4
  rw [hlv] at d4
  have HR := Lib.hid (show RMoreRel w w2 tb base n el mn mx bd lv lv f x w.heap.size 0 from ⟨hm2.congr (fun i hi => by unfold afterV; rw [if_pos (by omega)]), hk1.of0 _, .inl rfl, hb2, HS.out, HT.out⟩)
  have HLV := Lib.hid hlv
  have hsz : base ≤ w2.heap.size := Nat.le_trans hb hk1.size
  clear c0 e0 e1 e2 hm2 HM HBX hb2 hlv
  rcases HG.out with rfl | ⟨rfl, g2⟩
  all_goals
   (go_wp2_with fail
    go_loopw [] (fun wr => ∃ (j : Nat) (lj : Value), j ≤ k ∧ base ≤ wr.heap.size ∧ RMoreRel w wr tb base n el mn mx _ lv lj f x w.heap.size j) (fun wr => n + k - lenAt wr tb 4)
    case atStart => exact ⟨0, lv, by omega, hsz, HR.out⟩
    case round =>
      clear HR d2 d3 d4
      obtain ⟨j, lj, hj, hbw, hr⟩ := hrel
      obtain ⟨Aj, cj, rfl, hnc, hcm, hsl⟩ := hr.tab.own.out
      have c4 := hr.tab.c4
      have z4 := hr.tab.obj.frozen 4
      have b0 := hr.box.cell 0
      have b1 := hr.box.cell 1
      have b2 := hr.box.cell 2
      by_cases hlt : j < k
      · have hjk : ((n + j : Nat) : Int) < (n : Int) + (k : Int) := by omega
        have hlt1 := hr.tab.obj.lt
        have hlt2 := hr.box.lt
        have C4 := Lib.hid c4
        have hownr := hr.tab.own
        have hobjr := hr.tab.obj
        have hne := hr.tab.ne
        have HRR := Lib.hid hr
        clear hr hsl
        go_wp2_with fail
        have hkb : Kept S0 wr (wr.alloc (.cells #[.int .u8 x.t, .int .u64 x.lo, .int .u64 x.hi] 43)) := (Kept.refl S0 wr).alloc _
        have hown1 := hownr.kept hkb (fun _ _ h => h)
        have hB1 := Blk.new wr 43 #[.int .u8 x.t, .int .u64 x.lo, .int .u64 x.hi]
        have hsl1 : Sl (wr.alloc (.cells #[.int .u8 x.t, .int .u64 x.lo, .int .u64 x.hi] 43)) (some ⟨wr.heap.size, 0, none⟩) (1 * 3) (vcell (fun _ => x)) := fun _ => ⟨wr.heap.size, 0, rfl, fun i hi => by
          match i, hi with
          | 0, _ => exact hB1.cell 0
          | 1, _ => exact hB1.cell 1
          | 2, _ => exact hB1.cell 2⟩
        have hobj1 := hobjr.alloc (.cells #[.int .u8 x.t, .int .u64 x.lo, .int .u64 x.hi] 43)
        have hsz1 : base ≤ (wr.alloc (.cells #[.int .u8 x.t, .int .u64 x.lo, .int .u64 x.hi] 43)).heap.size := Nat.le_trans hbw hkb.size
        have HKB := Lib.hid hkb
        clear hownr hobjr
        go_region_law (refine step_append_all rfl (.tmp 61) (.tmp 63) 24 rfl base 43 (.agg #[.int .u8 0, .int .u64 0, .int .u64 0]) 3 24 Try.underlying24 Try.infoV rfl (by decide) AnyV (fun _ _ => trivial) _ (n + j) (vcell (afterV n f (fun _ => x))) rfl hown1 (some ⟨wr.heap.size, 0, none⟩) 1 1 (vcell (fun _ => x)) rfl hsl1 (fun h => by cases h) (fun _ _ => trivial) (fun _ _ => vcell_one _ _) (by unfold maxLen; omega) (by omega) hsz1 ?_; intro v' w' ha; obtain ⟨A', c', rfl, _, _, _⟩ := ha.own.out; have hB5 := ha.grown.block tb (Nat.lt_of_lt_of_le hlt1 HKB.out.size) (fun e => hne e.symm); have hB6 : Blk w' tb 77 _ := hB5.trans hobj1; have d5 : w'.cell? ⟨tb, 4, none⟩ = some (.slice Aj (n + j) cj) := hB6.cell 4; have y5 := hB6.frozen 4; have HA := Lib.hid (show Appended _ w' base 43 3 AnyV (.slice Aj (n + j) cj) (.slice A' (n + j + 1) c') (n + j + 1) _ 1 from ha); clear ha hB5)
        go_wp2_with fail
        all_goals
         (go_roundw
          case rel =>
            have hst := HRR.out.step HKB.out.drew HA.out
            exact ⟨j + 1, _, by omega, Nat.le_trans hsz1 (Nat.le_trans HA.out.grown.size (by simp)), hst⟩
          case measure =>
            have hst := HRR.out.step HKB.out.drew HA.out
            have e1 := lenAt_is (C4.out)
            have e2 := lenAt_is hst.tab.c4
            rw [e1, e2]
            omega)
      · obtain rfl : j = k := by omega
        have HRR := Lib.hid hr
        clear hr
        go_wp2_with fail
        go_ret2
        exact ⟨rfl, _, HRR.out.tab, HRR.out.kept, HRR.out.block⟩)

structure RNewRel (w wr : World) (rb mn : Nat) (el mx : Int) (bd : Bool) (lj : Value) (x : V3) (j : Nat) : Prop where
  tab : RefAt wr rb w.heap.size j el mn mx bd lj (fun _ => x)
  kept : Kept S0 w wr
  tt : Blk wr w.heap.size 41 #[.int .u8 el, .int .u32 (mn : Int), .int .u32 mx, .bool bd]
  box : Blk wr (w.heap.size + 1) 43 #[.int .u8 x.t, .int .u64 x.lo, .int .u64 x.hi]
  own : ∀ g, lj.ownBlock = some g → w.heap.size + 1 < g
  rb : w.heap.size + 1 < rb

theorem RNewRel.step {w wr w1 w' : World} {rb mn j c : Nat} {el mx : Int} {bd : Bool} {v' : Value} {A : Option Addr} {x : V3}
    (h : RNewRel w wr rb mn el mx bd (.slice A j c) x j) (hk1 : Kept S0 wr w1)
    (ha : Appended w1 w' w.heap.size 43 3 AnyV (.slice A j c) v' (j + 1) (after (j * 3) (vcell (fun _ => x)) (vcell (fun _ => x))) 1) :
    RNewRel w (w'.setCell ⟨rb, 4, none⟩ v') rb mn el mx bd v' x (j + 1) := by
  have hobj1 := hk1.blk h.tab.obj (fun x => x)
  have hbox1 := hk1.blk h.box (fun x => x)
  have htt1 := hk1.blk h.tt (fun x => x)
  have hown2 : Own w' w.heap.size 43 3 AnyV v' (j + 1) (vcell (fun _ => x)) := by
    have h2 := ha.own
    rw [after_vcell, show afterV j (fun _ => x) (fun _ => x) = (fun _ => x) from by funext i; unfold afterV; split <;> rfl] at h2
    exact h2
  have hB6 : Blk w' rb 77 _ := (ha.grown.block rb hobj1.lt (fun e => h.tab.ne e.symm)).trans hobj1
  have hbox : Blk w' (w.heap.size + 1) 43 _ := (ha.grown.block _ hbox1.lt (fun e => by have := h.own _ e.symm; omega)).trans hbox1
  have htt : Blk w' w.heap.size 41 _ := (ha.grown.block _ htt1.lt (fun e => by have := h.own _ e.symm; omega)).trans htt1
  have hne2 := hown2.ne_blk hB6 (by decide)
  have hkW : Kept S0 w w' := (h.kept.then0 hk1).grown ⟨ha.grown.os, ha.grown.tape, ha.grown.output, ha.grown.size, ha.grown.block⟩ (fun g hg => .inr (by have := h.own g hg; omega))
  have hrb := h.rb
  refine ⟨⟨hB6.set_ 4 _, hown2.kept ((Kept.refl (S1 rb) w').setCell (p := ⟨rb, 4, none⟩) (.inl rfl) _) (fun g hg e => hne2 (by rw [hg]; exact congrArg some e)), h.tab.lo⟩, hkW.setCell (p := ⟨rb, 4, none⟩) (.inr (by show w.heap.size ≤ rb; omega)) _, htt.far (p := ⟨rb, 4, none⟩) (by show w.heap.size ≠ rb; omega) _, hbox.far (p := ⟨rb, 4, none⟩) (by show w.heap.size + 1 ≠ rb; omega) _, ?_, hrb⟩
  intro g hg
  rcases ha.block with e | e
  · exact h.own g (e ▸ hg)
  · rw [e] at hg
    cases hg
    have := hobj1.lt
    omega
end

section
variable (el mn mx t lo hi : Int) (bd : Bool) (w : World)

set_option maxHeartbeats 1600000 in
theorem rnew_arg (h1 : 0 ≤ mn) (h2 : mn ≤ 4294967295) (h3 : 0 ≤ mx) (h4 : mx ≤ 4294967295) (hf : mayTabB el mn mx bd = false ∨ fitB t lo hi el = false) :
    Calls Try.prog 23 #[.agg #[.int .u8 el, .int .u32 mn, .int .u32 mx, .bool bd], .agg #[.int .u8 t, .int .u64 lo, .int .u64 hi]] w fun e w' => e = .returned (.tuple #[.pointer none, .int .i64 2]) ∧ Kept S0 w w' := by
  have hk0 : Kept S0 w ((w.alloc (.cells #[.int .u8 el, .int .u32 mn, .int .u32 mx, .bool bd] 41)).alloc (.cells #[.int .u8 t, .int .u64 lo, .int .u64 hi] 43)) := ((Kept.refl S0 w).alloc _).alloc _
  have hB := (Blk.new w 41 #[.int .u8 el, .int .u32 mn, .int .u32 mx, .bool bd]).alloc (.cells #[.int .u8 t, .int .u64 lo, .int .u64 hi] 43)
  have hC := Blk.new1 w (.cells #[.int .u8 el, .int .u32 mn, .int .u32 mx, .bool bd] 41) 43 #[.int .u8 t, .int .u64 lo, .int .u64 hi]
  cases hm : mayTabB el mn mx bd with
  | false =>
    have HM := Lib.hid hm
    clear hm hf
    go_enter Try.func23, Try.ntmps23
    go_wp2_with fail
    refine (rmaytab_any _ _ _ _ _ h1 h2 h3 h4).mono ?_
    rintro e w1 ⟨rfl, hk⟩
    rw [HM.out]
    go_wp2_with fail
    go_ret2
    exact ⟨rfl, hk0.then0 hk⟩
  | true =>
    have hel := Lib.hid (isRef_of hm)
    have HF := Lib.hid (hf.resolve_left (by rw [hm]; simp))
    have HM := Lib.hid hm
    clear hm hf
    go_enter Try.func23, Try.ntmps23
    go_wp2_with fail
    refine (rmaytab_any _ _ _ _ _ h1 h2 h3 h4).mono ?_
    rintro e w1 ⟨rfl, hk⟩
    rw [HM.out]
    have hB1 := hk.blk hB (fun x => x)
    have hC1 := hk.blk hC (fun x => x)
    have d0 : w1.cell? ⟨w.heap.size, 0, none⟩ = some (.int .u8 el) := hB1.cell 0
    have e0 : w1.cell? ⟨w.heap.size + 1, 0, none⟩ = some (.int .u8 t) := hC1.cell 0
    have e1 : w1.cell? ⟨w.heap.size + 1, 1, none⟩ = some (.int .u64 lo) := hC1.cell 1
    have e2 : w1.cell? ⟨w.heap.size + 1, 2, none⟩ = some (.int .u64 hi) := hC1.cell 2
    have hk1 := hk0.then0 hk
    clear hB hC hB1 hC1 hk hk0
    go_wp2_with fail
    refine (ris_ref _ _ _ _ _ hel.out).mono ?_
    rintro e w2 ⟨rfl, hk2⟩
    rw [HF.out]
    go_wp2_with fail
    go_ret2
    exact ⟨rfl, hk1.then0 hk2⟩

set_option maxHeartbeats 1600000 in
theorem rnew_limit (h1 : 16384 < mn) (h2 : mn ≤ 4294967295) (h3 : 0 ≤ mx) (h4 : mx ≤ 4294967295) (hm : mayTabB el mn mx bd = true) (hf : fitB t lo hi el = true) :
    Calls Try.prog 23 #[.agg #[.int .u8 el, .int .u32 mn, .int .u32 mx, .bool bd], .agg #[.int .u8 t, .int .u64 lo, .int .u64 hi]] w fun e w' => e = .returned (.tuple #[.pointer none, .int .i64 3]) ∧ Kept S0 w w' := by
  have hk0 : Kept S0 w ((w.alloc (.cells #[.int .u8 el, .int .u32 mn, .int .u32 mx, .bool bd] 41)).alloc (.cells #[.int .u8 t, .int .u64 lo, .int .u64 hi] 43)) := ((Kept.refl S0 w).alloc _).alloc _
  have hB := (Blk.new w 41 #[.int .u8 el, .int .u32 mn, .int .u32 mx, .bool bd]).alloc (.cells #[.int .u8 t, .int .u64 lo, .int .u64 hi] 43)
  have hC := Blk.new1 w (.cells #[.int .u8 el, .int .u32 mn, .int .u32 mx, .bool bd] 41) 43 #[.int .u8 t, .int .u64 lo, .int .u64 hi]
  have hel := Lib.hid (isRef_of hm)
  have HF := Lib.hid hf
  have HM := Lib.hid hm
  clear hm hf
  go_enter Try.func23, Try.ntmps23
  go_wp2_with fail
  refine (rmaytab_any _ _ _ _ _ (by omega) h2 h3 h4).mono ?_
  rintro e w1 ⟨rfl, hk⟩
  rw [HM.out]
  have hB1 := hk.blk hB (fun x => x)
  have hC1 := hk.blk hC (fun x => x)
  have d0 : w1.cell? ⟨w.heap.size, 0, none⟩ = some (.int .u8 el) := hB1.cell 0
  have e0 : w1.cell? ⟨w.heap.size + 1, 0, none⟩ = some (.int .u8 t) := hC1.cell 0
  have e1 : w1.cell? ⟨w.heap.size + 1, 1, none⟩ = some (.int .u64 lo) := hC1.cell 1
  have e2 : w1.cell? ⟨w.heap.size + 1, 2, none⟩ = some (.int .u64 hi) := hC1.cell 2
  have hk1 := hk0.then0 hk
  clear hB hC hC1 hk hk0
  go_wp2_with fail
  refine (ris_ref _ _ _ _ _ hel.out).mono ?_
  rintro e w2 ⟨rfl, hk2⟩
  rw [HF.out]
  have hB2 := hk2.blk hB1 (fun x => x)
  have f1 : w2.cell? ⟨w.heap.size, 1, none⟩ = some (.int .u32 mn) := hB2.cell 1
  go_wp2_with fail
  go_ret2
  exact ⟨rfl, hk1.then0 hk2⟩
end

set_option maxHeartbeats 3200000 in
theorem rnew_made (el mx : Int) (mn : Nat) (bd : Bool) (x : V3) (w : World) (h1 : mn ≤ 16384) (h3 : 0 ≤ mx) (h4 : mx ≤ 4294967295) (hm : mayTabB el mn mx bd = true) (hf : fitB x.t x.lo x.hi el = true) :
    Calls Try.prog 23 #[.agg #[.int .u8 el, .int .u32 (mn : Int), .int .u32 mx, .bool bd], .agg #[.int .u8 x.t, .int .u64 x.lo, .int .u64 x.hi]] w fun e w' => ∃ tb lv, e = .returned (.tuple #[.pointer (some ⟨tb, 0, none⟩), .int .i64 0]) ∧ RefAt w' tb w.heap.size mn el mn mx bd lv (fun _ => x) ∧ Kept S0 w w' := by
  have hk0 : Kept S0 w ((w.alloc (.cells #[.int .u8 el, .int .u32 mn, .int .u32 mx, .bool bd] 41)).alloc (.cells #[.int .u8 x.t, .int .u64 x.lo, .int .u64 x.hi] 43)) := ((Kept.refl S0 w).alloc _).alloc _
  have hB := (Blk.new w 41 #[.int .u8 el, .int .u32 mn, .int .u32 mx, .bool bd]).alloc (.cells #[.int .u8 x.t, .int .u64 x.lo, .int .u64 x.hi] 43)
  have hC := Blk.new1 w (.cells #[.int .u8 el, .int .u32 mn, .int .u32 mx, .bool bd] 41) 43 #[.int .u8 x.t, .int .u64 x.lo, .int .u64 x.hi]
  have hel := Lib.hid (isRef_of hm)
  have HF := Lib.hid hf
  have HM := Lib.hid hm
  have u1 : IntKind.i64.wrap (mn : Int) = (mn : Int) := IntWalk.i64_in _ (by omega)
  clear hm hf
  go_enter Try.func23, Try.ntmps23
  go_wp2_with fail
  refine (rmaytab_any _ _ _ _ _ (by omega) (by omega) h3 h4).mono ?_
  rintro e w1 ⟨rfl, hk⟩
  rw [HM.out]
  have hB1 := hk.blk hB (fun x => x)
  have hC1 := hk.blk hC (fun x => x)
  have d0 : w1.cell? ⟨w.heap.size, 0, none⟩ = some (.int .u8 el) := hB1.cell 0
  have e0 : w1.cell? ⟨w.heap.size + 1, 0, none⟩ = some (.int .u8 x.t) := hC1.cell 0
  have e1 : w1.cell? ⟨w.heap.size + 1, 1, none⟩ = some (.int .u64 x.lo) := hC1.cell 1
  have e2 : w1.cell? ⟨w.heap.size + 1, 2, none⟩ = some (.int .u64 x.hi) := hC1.cell 2
  have hk1 := hk0.then0 hk
  clear hB hC hk hk0
  go_wp2_with fail
  refine (ris_ref _ _ _ _ _ hel.out).mono ?_
  rintro e w2 ⟨rfl, hk2⟩
  rw [HF.out]
  have hB2 := hk2.blk hB1 (fun x => x)
  have hC2 := hk2.blk hC1 (fun x => x)
  have f0 : w2.cell? ⟨w.heap.size, 0, none⟩ = some (.int .u8 el) := hB2.cell 0
  have f1 : w2.cell? ⟨w.heap.size, 1, none⟩ = some (.int .u32 (mn : Int)) := hB2.cell 1
  have f2 : w2.cell? ⟨w.heap.size, 2, none⟩ = some (.int .u32 mx) := hB2.cell 2
  have f3 : w2.cell? ⟨w.heap.size, 3, none⟩ = some (.bool bd) := hB2.cell 3
  have hk3 := hk1.then0 hk2
  have hl1 := hB2.lt
  have hl2 := hC2.lt
  clear d0 e0 e1 e2 hB1 hC1 hk1 hk2
  have HR := Lib.hid (show RNewRel w (w2.alloc (.cells (refCells el mn mx bd (.slice none 0 0)) 77)) w2.heap.size mn el mx bd (.slice none 0 0) x 0 from
    ⟨⟨Blk.new w2 _ _, Own.nil _ _ _ _ _ _, hk3.size⟩, hk3.alloc _, hB2.alloc _, hC2.alloc _, fun g hg => by simp [Value.ownBlock] at hg, hl2⟩)
  clear hB2 hC2 hk3
  go_wp2_with fail
  go_loopw [7] (fun i wr => ∃ (j : Nat) (lj : Value), i = .int .i64 (j : Int) ∧ j ≤ mn ∧ w.heap.size ≤ wr.heap.size ∧ RNewRel w wr w2.heap.size mn el mx bd lj x j) (fun i _ => mn - (intOf i).toNat)
  case atStart => exact ⟨0, _, rfl, by omega, HR.out.kept.size, HR.out⟩
  case round =>
    clear HR f0 f1 f2 f3
    obtain ⟨rb, hrb⟩ : ∃ rb, rb = w2.heap.size := ⟨_, rfl⟩
    rw [← hrb] at hrel ⊢
    obtain ⟨j, lj, rfl, hj, hbw, hr⟩ := hrel
    obtain ⟨Aj, cj, rfl, hnc, hcm, hsl⟩ := hr.tab.own.out
    have c4 := hr.tab.c4
    have z4 := hr.tab.obj.frozen 4
    have t1 := hr.tt.cell 1
    have b0 := hr.box.cell 0
    have b1 := hr.box.cell 1
    have b2 := hr.box.cell 2
    by_cases hlt : j < mn
    · have hji : (j : Int) < (mn : Int) := by omega
      have uj : IntKind.i64.wrap ((j : Int) + 1) = (j : Int) + 1 := IntWalk.i64_in _ (by omega)
      have hlt1 := hr.tab.obj.lt
      have hlt2 := hr.box.lt
      have hownr := hr.tab.own
      have hobjr := hr.tab.obj
      have hne := hr.tab.ne
      have HRR := Lib.hid hr
      clear hr hsl hrb
      go_wp2_with fail
      have hkb : Kept S0 wr (wr.alloc (.cells #[.int .u8 x.t, .int .u64 x.lo, .int .u64 x.hi] 43)) := (Kept.refl S0 wr).alloc _
      have hown1 := hownr.kept hkb (fun _ _ h => h)
      have hB1 := Blk.new wr 43 #[.int .u8 x.t, .int .u64 x.lo, .int .u64 x.hi]
      have hsl1 : Sl (wr.alloc (.cells #[.int .u8 x.t, .int .u64 x.lo, .int .u64 x.hi] 43)) (some ⟨wr.heap.size, 0, none⟩) (1 * 3) (vcell (fun _ => x)) := fun _ => ⟨wr.heap.size, 0, rfl, fun i hi => by
        match i, hi with
        | 0, _ => exact hB1.cell 0
        | 1, _ => exact hB1.cell 1
        | 2, _ => exact hB1.cell 2⟩
      have hobj1 := hobjr.alloc (.cells #[.int .u8 x.t, .int .u64 x.lo, .int .u64 x.hi] 43)
      have hsz1 : w.heap.size ≤ (wr.alloc (.cells #[.int .u8 x.t, .int .u64 x.lo, .int .u64 x.hi] 43)).heap.size := Nat.le_trans hbw hkb.size
      have HKB := Lib.hid hkb
      clear hownr hobjr
      go_region_law (refine step_append_all rfl (.tmp 37) (.tmp 39) 24 rfl w.heap.size 43 (.agg #[.int .u8 0, .int .u64 0, .int .u64 0]) 3 24 Try.underlying24 Try.infoV rfl (by decide) AnyV (fun _ _ => trivial) _ (j) (vcell (fun _ => x)) rfl hown1 (some ⟨wr.heap.size, 0, none⟩) 1 1 (vcell (fun _ => x)) rfl hsl1 (fun h => by cases h) (fun _ _ => trivial) (fun _ _ => vcell_one _ _) (by unfold maxLen; omega) (by omega) hsz1 ?_; intro v' w' ha; obtain ⟨A', c', rfl, _, _, _⟩ := ha.own.out; have hB5 := ha.grown.block rb (Nat.lt_of_lt_of_le hlt1 HKB.out.size) (fun e => hne e.symm); have hB6 : Blk w' rb 77 _ := hB5.trans hobj1; have d5 : w'.cell? ⟨rb, 4, none⟩ = some (.slice Aj (j) cj) := hB6.cell 4; have y5 := hB6.frozen 4; have HA := Lib.hid (show Appended _ w' w.heap.size 43 3 AnyV (.slice Aj (j) cj) (.slice A' (j + 1) c') (j + 1) _ 1 from ha); clear ha hB5)
      go_wp2_with fail
      all_goals
       (go_roundw
        case rel =>
          have hst := HRR.out.step HKB.out.drew HA.out
          exact ⟨j + 1, _, by go_num, by omega, Nat.le_trans hsz1 (Nat.le_trans HA.out.grown.size (by simp)), hst⟩
        case measure => simp [intOf]; omega)
    · obtain rfl : j = mn := by omega
      have HRR := Lib.hid hr
      clear hr
      go_wp2_with fail
      go_ret2
      exact ⟨_, _, rfl, HRR.out.tab, HRR.out.kept⟩
end Go.Proofs.Ytpeekldngelkkaa
