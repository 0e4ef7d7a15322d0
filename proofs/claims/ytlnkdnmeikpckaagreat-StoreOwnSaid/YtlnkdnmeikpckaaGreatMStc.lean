/- What the proofs lean on, part 3 of St. No condition. -/
import Derived.Test.YtlnkdnmeikpckaaGreatMSta
import Derived.Test.YtlnkdnmeikpckaaGreatMStb
import Derived.Test.YtlnkdnmeikpckaaGreatProg
import Derived.Lib.SliceRun
import Derived.StillTailTactics
namespace Go.Proofs.YtlnkdnmeikpckaaGreat.T20
open Go.RowKit
set_option maxRecDepth 100000
/-- May it grow? -/
def growB (N k : Nat) (mx : Int) (bd : Bool) : Bool := decide (N + k ≤ 16384) && (!bd || decide (((N + k : Nat) : Int) ≤ mx))
section
variable {w : World} {tb base N : Nat} {el mn mx : Int} {bd : Bool} {lv : Value} {f : Nat → V3}
set_option maxHeartbeats 1600000 in
theorem grow_no (k : Nat) (x : V3) (hm : TabAt w tb base N el mn mx bd lv f) (hN : N ≤ 16384) (hk : k ≤ 4294967295) (h3 : 0 ≤ mx) (h4 : mx ≤ 4294967295) (hel : el = 112 ∨ el = 111) (hf : fitB x.t x.lo x.hi el = true) (hg : growB N k mx bd = false) :
    Calls Tryz.prog 114 #[.pointer (some ⟨tb, 0, none⟩), .int .u32 (k : Int), .agg #[.int .u8 x.t, .int .u64 x.lo, .int .u64 x.hi]] w fun e w' => e = .returned (.tuple #[.int .u32 4294967295, .int .i64 0]) ∧ Kept S0 w w' := by
  have hka : Kept S0 w (w.alloc (.cells #[.int .u8 x.t, .int .u64 x.lo, .int .u64 x.hi] 65)) := (Kept.refl S0 w).alloc _
  have hm1 := hm.kept0 hka
  have c0 := hm1.c0
  have c1 := hm1.c1
  have hB := Blk.new w 65 #[.int .u8 x.t, .int .u64 x.lo, .int .u64 x.hi]
  have e0 : (w.alloc (.cells #[.int .u8 x.t, .int .u64 x.lo, .int .u64 x.hi] 65)).cell? ⟨w.heap.size, 0, none⟩ = some (.int .u8 x.t) := hB.cell 0
  have e1 : (w.alloc (.cells #[.int .u8 x.t, .int .u64 x.lo, .int .u64 x.hi] 65)).cell? ⟨w.heap.size, 1, none⟩ = some (.int .u64 x.lo) := hB.cell 1
  have e2 : (w.alloc (.cells #[.int .u8 x.t, .int .u64 x.lo, .int .u64 x.hi] 65)).cell? ⟨w.heap.size, 2, none⟩ = some (.int .u64 x.hi) := hB.cell 2
  have HF := Lib.hid hf
  have HE := Lib.hid hel
  have HM := Lib.hid hm1
  have u1 : IntKind.u64.wrap (k : Int) = (k : Int) := IntWalk.u64_in _ (by omega)
  have u2 : IntKind.u64.wrap (N : Int) = (N : Int) := IntWalk.u64_in _ (by omega)
  have u3 : IntKind.u64.wrap ((N : Int) + (k : Int)) = (N : Int) + (k : Int) := IntWalk.u64_in _ (by omega)
  have u4 : IntKind.u64.wrap mx = mx := IntWalk.u64_in _ (by omega)
  have hg2 : decide ((16384 : Int) < (N : Int) + (k : Int)) = true ∨ (decide ((16384 : Int) < (N : Int) + (k : Int)) = false ∧ bd = true ∧ decide (mx < (N : Int) + (k : Int)) = true) := by
    unfold growB at hg
    by_cases h : N + k ≤ 16384
    · refine .inr ⟨decide_eq_false (by omega), ?_⟩
      rw [decide_eq_true h] at hg
      simp at hg
      exact ⟨hg.1, decide_eq_true (by omega)⟩
    · exact .inl (decide_eq_true (by omega))
  have HG := Lib.hid hg2
  clear hm hm1 hB hf hel hg hg2
  go_enter Tryz.func114, Tryz.ntmps114
  go_wp2_with fail
  refine (off_made _ _ c0).mono ?_
  rintro e w1 ⟨rfl, rfl⟩
  go_wp2_with fail
  generalize hw1 : w.alloc (.cells #[.int .u8 x.t, .int .u64 x.lo, .int .u64 x.hi] 65) = w1 at *
  have HW := Lib.hid hw1
  clear hw1
  go_still_tail 6, (by kernel_rfl)
  change wpList _ _ _ _ _ (World.drew _)
  go_wp2_with fail
  refine (fits_ref x.t x.lo x.hi el _ HE.out).mono ?_
  rintro e w2 ⟨rfl, hk⟩
  rw [HF.out]
  have hk1 := hka.drew.then0 hk
  have hm2 := HM.out.drew.kept0 hk
  obtain ⟨A, c, rfl, _, _, _⟩ := hm2.own.out
  have d0 := hm2.c0
  have d3 := hm2.c3
  have d4 := hm2.c4
  have d5 := hm2.c5
  clear c0 c1 e0 e1 e2 hm2
  go_wp2_with fail
  refine (size_made tb _ A N c d0 d5 hN).mono ?_
  rintro e w3 ⟨rfl, rfl⟩
  rcases HG.out with g1 | ⟨g1, rfl, g2⟩
  all_goals
    go_wp2_with fail
    go_ret2
    exact ⟨rfl, hk1⟩
set_option maxHeartbeats 1600000 in
theorem grow_yes (k : Nat) (x : V3) (hm : TabAt w tb base N el mn mx bd lv f) (hN : N ≤ 16384) (hk : k ≤ 4294967295) (h3 : 0 ≤ mx) (h4 : mx ≤ 4294967295) (hel : el = 112 ∨ el = 111) (hf : fitB x.t x.lo x.hi el = true) (hg : growB N k mx bd = true) (hb : base ≤ w.heap.size) :
    Calls Tryz.prog 114 #[.pointer (some ⟨tb, 0, none⟩), .int .u32 (k : Int), .agg #[.int .u8 x.t, .int .u64 x.lo, .int .u64 x.hi]] w fun e w' => e = .returned (.tuple #[.int .u32 (N : Int), .int .i64 0]) ∧ ∃ lj, TabAt w' tb base (N + k) el mn mx bd lj (afterV N f (fun _ => x)) ∧ Kept (ST tb lv) w w' ∧ (lj.ownBlock = lv.ownBlock ∨ ∃ g, lj.ownBlock = some g ∧ w.heap.size ≤ g) := by
  have hka : Kept S0 w (w.alloc (.cells #[.int .u8 x.t, .int .u64 x.lo, .int .u64 x.hi] 65)) := (Kept.refl S0 w).alloc _
  have hm1 := hm.kept0 hka
  have c0 := hm1.c0
  have c1 := hm1.c1
  have hB := Blk.new w 65 #[.int .u8 x.t, .int .u64 x.lo, .int .u64 x.hi]
  have e0 : (w.alloc (.cells #[.int .u8 x.t, .int .u64 x.lo, .int .u64 x.hi] 65)).cell? ⟨w.heap.size, 0, none⟩ = some (.int .u8 x.t) := hB.cell 0
  have e1 : (w.alloc (.cells #[.int .u8 x.t, .int .u64 x.lo, .int .u64 x.hi] 65)).cell? ⟨w.heap.size, 1, none⟩ = some (.int .u64 x.lo) := hB.cell 1
  have e2 : (w.alloc (.cells #[.int .u8 x.t, .int .u64 x.lo, .int .u64 x.hi] 65)).cell? ⟨w.heap.size, 2, none⟩ = some (.int .u64 x.hi) := hB.cell 2
  have HF := Lib.hid hf
  have HE := Lib.hid hel
  have HM := Lib.hid hm1
  have HBX := Lib.hid hB
  have hsum : N + k ≤ 16384 := by
    by_cases h : N + k ≤ 16384
    · exact h
    · unfold growB at hg; rw [decide_eq_false h] at hg; simp at hg
  have u1 : IntKind.u64.wrap (k : Int) = (k : Int) := IntWalk.u64_in _ (by omega)
  have u2 : IntKind.u64.wrap (N : Int) = (N : Int) := IntWalk.u64_in _ (by omega)
  have u3 : IntKind.u64.wrap ((N : Int) + (k : Int)) = (N : Int) + (k : Int) := IntWalk.u64_in _ (by omega)
  have u4 : IntKind.u64.wrap mx = mx := IntWalk.u64_in _ (by omega)
  have u5 : IntKind.i64.wrap (k : Int) = (k : Int) := IntWalk.i64_in _ (by omega)
  have g1 : decide ((16384 : Int) < (N : Int) + (k : Int)) = false := decide_eq_false (by omega)
  have hg2 : bd = false ∨ (bd = true ∧ decide (mx < (N : Int) + (k : Int)) = false) := by
    cases bd with
    | false => exact .inl rfl
    | true =>
      refine .inr ⟨rfl, decide_eq_false ?_⟩
      unfold growB at hg
      simp at hg
      omega
  have HG := Lib.hid hg2
  clear hm hm1 hB hf hel hg hg2
  go_enter Tryz.func114, Tryz.ntmps114
  go_wp2_with fail
  refine (off_made _ _ c0).mono ?_
  rintro e w1 ⟨rfl, rfl⟩
  go_wp2_with fail
  generalize hw1 : w.alloc (.cells #[.int .u8 x.t, .int .u64 x.lo, .int .u64 x.hi] 65) = w1 at *
  have HW := Lib.hid hw1
  clear hw1
  go_still_tail 6, (by kernel_rfl)
  change wpList _ _ _ _ _ (World.drew _)
  go_wp2_with fail
  refine (fits_ref x.t x.lo x.hi el _ HE.out).mono ?_
  rintro e w2 ⟨rfl, hk⟩
  rw [HF.out]
  have hk1 := hka.drew.then0 hk
  have hm2 := HM.out.drew.kept0 hk
  have hb2 := hk.blk (((Kept.refl S0 w1).drew).blk HBX.out (fun x => x)) (fun x => x)
  have b0 := hb2.cell 0
  have b1 := hb2.cell 1
  have b2 := hb2.cell 2
  have HM2 := Lib.hid hm2
  obtain ⟨A, c, hlv, _, _, _⟩ := hm2.own.out
  have d0 := hm2.c0
  have d3 := hm2.c3
  have d4 := hm2.c4
  have d5 := hm2.c5
  rw [hlv] at d5
  clear c0 c1 e0 e1 e2 hm2 HM HBX hb2
  go_wp2_with fail
  refine (size_made tb _ A N c d0 d5 hN).mono ?_
  rintro e w3 ⟨rfl, rfl⟩
  have HMORE := Lib.hid (more_any tb base N k el mn mx bd lv f x _ HM2.out hsum (Nat.le_trans hb hk1.size))
  rcases HG.out with rfl | ⟨rfl, g2⟩
  all_goals
    go_wp2_with fail
    refine HMORE.out.mono ?_
    rintro e w4 ⟨rfl, lj, hm4, hk4, hbl⟩
    go_wp2_with fail
    go_ret2
    exact ⟨rfl, lj, hm4, (hk1.of0 _).trans hk4, hbl.imp id (fun ⟨g, q1, q2⟩ => ⟨g, q1, Nat.le_trans hk1.size q2⟩)⟩
end
end Go.Proofs.YtlnkdnmeikpckaaGreat.T20
namespace Go.Proofs.YtlnkdnmeikpckaaGreat
open Go.RowKit
set_option maxRecDepth 100000
/-- May limits be so? -/
def mayB (mn mx : Int) (bd : Bool) (top : Int) : Bool := if bd then !decide (mx < mn) && !decide (top < mx) && decide (mn ≤ top) else (mx == 0) && decide (mn ≤ top)
set_option maxHeartbeats 800000 in
theorem may_any (mn mx top : Int) (bd : Bool) (w : World) (h1 : 0 ≤ mn) (h2 : mn ≤ 4294967295) (h3 : 0 ≤ mx) (h4 : mx ≤ 4294967295) (_h5 : 0 ≤ top) (_h6 : top ≤ 18446744073709551615) :
    Calls Tryz.prog 127 #[.agg #[.int .u32 mn, .int .u32 mx, .bool bd], .int .u64 top] w fun e w' => e = .returned (.bool (mayB mn mx bd top)) ∧ Kept S0 w w' := by
  have u1 : IntKind.u64.wrap mn = mn := IntWalk.u64_in _ (by omega)
  have u2 : IntKind.u64.wrap mx = mx := IntWalk.u64_in _ (by omega)
  cases bd with
  | true =>
    by_cases c1 : mx < mn
    · have hb := Lib.hid (show mayB mn mx true top = false by simp [mayB]; omega)
      go_enter Tryz.func127, Tryz.ntmps127
      go_wp2
      go_ret
      exact ⟨ret_bool (by rw [hb.out]), (Kept.refl _ _).alloc _⟩
    · have c1' : decide (mx < mn) = false := decide_eq_false c1
      by_cases c2 : top < mx
      · have c2' : decide (top < mx) = true := decide_eq_true c2
        have hb := Lib.hid (show mayB mn mx true top = false by simp [mayB]; omega)
        clear c1 c2
        go_enter Tryz.func127, Tryz.ntmps127
        go_wp2
        go_ret
        exact ⟨ret_bool (by rw [hb.out]), (Kept.refl _ _).alloc _⟩
      · have c2' : decide (top < mx) = false := decide_eq_false c2
        have hb := Lib.hid (show mayB mn mx true top = decide (mn ≤ top) by unfold mayB; rw [c1', c2']; simp)
        clear c1 c2
        go_enter Tryz.func127, Tryz.ntmps127
        go_wp2
        go_ret
        exact ⟨ret_bool (by rw [hb.out]), (Kept.refl _ _).alloc _⟩
  | false =>
    by_cases c1 : mx = 0
    · subst c1
      have hb := Lib.hid (show mayB mn 0 false top = decide (mn ≤ top) by simp [mayB])
      go_enter Tryz.func127, Tryz.ntmps127
      go_wp2
      go_ret
      exact ⟨ret_bool (by rw [hb.out]), (Kept.refl _ _).alloc _⟩
    · have c2 : (mx != 0) = true := bne_iff_ne.2 c1
      have hb := Lib.hid (show mayB mn mx false top = false by simp [mayB, c1])
      clear c1
      go_enter Tryz.func127, Tryz.ntmps127
      go_wp2
      go_ret
      exact ⟨ret_bool (by rw [hb.out]), (Kept.refl _ _).alloc _⟩
end Go.Proofs.YtlnkdnmeikpckaaGreat
namespace Go.Proofs.YtlnkdnmeikpckaaGreat.T20
open Go.RowKit
set_option maxRecDepth 100000
def isRefB (el : Int) : Bool := (el == 112) || (el == 111)
set_option maxHeartbeats 400000 in
theorem isref_any (el : Int) (w : World) : Calls Tryz.prog 95 #[.int .u8 el] w fun e w' => e = .returned (.bool (isRefB el)) ∧ w = w' := by
  by_cases h1 : el = 112
  · subst h1
    go_enter Tryz.func95, Tryz.ntmps95
    go_wp2
    go_ret
    exact ⟨rfl, rfl⟩
  · have h2 : (el == 112) = false := beq_eq_false_iff_ne.2 h1
    have HB := Lib.hid (show isRefB el = (el == 111) by simp [isRefB, h1])
    clear h1
    go_enter Tryz.func95, Tryz.ntmps95
    go_wp2
    go_ret
    exact ⟨ret_bool (by rw [HB.out]), rfl⟩
def mayTabB (el mn mx : Int) (bd : Bool) : Bool := isRefB el && mayB mn mx bd 4294967295
set_option maxHeartbeats 800000 in
theorem maytab_any (el mn mx : Int) (bd : Bool) (w : World) (h1 : 0 ≤ mn) (h2 : mn ≤ 4294967295) (h3 : 0 ≤ mx) (h4 : mx ≤ 4294967295) :
    Calls Tryz.prog 123 #[.agg #[.int .u8 el, .int .u32 mn, .int .u32 mx, .bool bd]] w fun e w' => e = .returned (.bool (mayTabB el mn mx bd)) ∧ Kept S0 w w' := by
  have hB := Blk.new w 31 #[.int .u8 el, .int .u32 mn, .int .u32 mx, .bool bd]
  have d0 : (w.alloc (.cells #[.int .u8 el, .int .u32 mn, .int .u32 mx, .bool bd] 31)).cell? ⟨w.heap.size, 0, none⟩ = some (.int .u8 el) := hB.cell 0
  have d1 : (w.alloc (.cells #[.int .u8 el, .int .u32 mn, .int .u32 mx, .bool bd] 31)).cell? ⟨w.heap.size, 1, none⟩ = some (.int .u32 mn) := hB.cell 1
  have d2 : (w.alloc (.cells #[.int .u8 el, .int .u32 mn, .int .u32 mx, .bool bd] 31)).cell? ⟨w.heap.size, 2, none⟩ = some (.int .u32 mx) := hB.cell 2
  have d3 : (w.alloc (.cells #[.int .u8 el, .int .u32 mn, .int .u32 mx, .bool bd] 31)).cell? ⟨w.heap.size, 3, none⟩ = some (.bool bd) := hB.cell 3
  cases hr : isRefB el with
  | true =>
    have HB := Lib.hid (show mayTabB el mn mx bd = mayB mn mx bd 4294967295 by simp [mayTabB, hr])
    have HR := Lib.hid hr
    clear hr
    go_enter Tryz.func123, Tryz.ntmps123
    go_wp2_with fail
    refine (isref_any _ _).mono ?_
    rintro e w1 ⟨rfl, rfl⟩
    rw [HR.out]
    go_wp2_with fail
    refine (may_any _ _ _ _ _ h1 h2 h3 h4 (by omega) (by omega)).mono ?_
    rintro e w1 ⟨rfl, hk⟩
    go_wp2_with fail
    go_ret
    exact ⟨ret_bool (by rw [HB.out]), ((Kept.refl S0 w).alloc _).then0 hk⟩
  | false =>
    have HB := Lib.hid (show mayTabB el mn mx bd = false by simp [mayTabB, hr])
    have HR := Lib.hid hr
    clear hr
    go_enter Tryz.func123, Tryz.ntmps123
    go_wp2_with fail
    refine (isref_any _ _).mono ?_
    rintro e w1 ⟨rfl, rfl⟩
    rw [HR.out]
    go_wp2_with fail
    go_ret
    exact ⟨ret_bool (by rw [HB.out]), (by repeat (first | exact Kept.refl _ _ | assumption | refine Kept.drew ?_ | refine Kept.alloc ?_ _ | refine Kept.setCell ?_ (.inr (by first | exact Nat.le_refl _ | (simp; done) | omega | (simp; omega))) _))⟩
theorem isRef_of {el mn mx : Int} {bd : Bool} (h : mayTabB el mn mx bd = true) : el = 112 ∨ el = 111 := by
  unfold mayTabB isRefB at h
  simp at h
  omega
section
variable (el mn mx t lo hi : Int) (bd : Bool) (w : World)
set_option maxHeartbeats 1600000 in
theorem newtab_arg (h1 : 0 ≤ mn) (h2 : mn ≤ 4294967295) (h3 : 0 ≤ mx) (h4 : mx ≤ 4294967295) (hf : mayTabB el mn mx bd = false ∨ fitB t lo hi el = false) :
    Calls Tryz.prog 88 #[.agg #[.int .u8 el, .int .u32 mn, .int .u32 mx, .bool bd], .agg #[.int .u8 t, .int .u64 lo, .int .u64 hi]] w fun e w' => e = .returned (.tuple #[.pointer none, .int .i64 2]) ∧ Kept S0 w w' := by
  have hk0 : Kept S0 w ((w.alloc (.cells #[.int .u8 el, .int .u32 mn, .int .u32 mx, .bool bd] 31)).alloc (.cells #[.int .u8 t, .int .u64 lo, .int .u64 hi] 65)) := ((Kept.refl S0 w).alloc _).alloc _
  have hB := (Blk.new w 31 #[.int .u8 el, .int .u32 mn, .int .u32 mx, .bool bd]).alloc (.cells #[.int .u8 t, .int .u64 lo, .int .u64 hi] 65)
  have hC := Blk.new1 w (.cells #[.int .u8 el, .int .u32 mn, .int .u32 mx, .bool bd] 31) 65 #[.int .u8 t, .int .u64 lo, .int .u64 hi]
  cases hm : mayTabB el mn mx bd with
  | false =>
    have HM := Lib.hid hm
    clear hm hf
    go_enter Tryz.func88, Tryz.ntmps88
    go_wp2_with fail
    refine (maytab_any _ _ _ _ _ h1 h2 h3 h4).mono ?_
    rintro e w1 ⟨rfl, hk⟩
    rw [HM.out]
    go_wp2_with fail
    go_ret2
    exact ⟨rfl, hk0.then0 hk⟩
  | true =>
    have hel := Lib.hid (isRef_of hm)
    have HF := Lib.hid (hf.resolve_left (by rw [hm]; simp))
    have HM := Lib.hid hm
    clear hm hf
    go_enter Tryz.func88, Tryz.ntmps88
    go_wp2_with fail
    refine (maytab_any _ _ _ _ _ h1 h2 h3 h4).mono ?_
    rintro e w1 ⟨rfl, hk⟩
    rw [HM.out]
    have hB1 := hk.blk hB (fun x => x)
    have hC1 := hk.blk hC (fun x => x)
    have d0 : w1.cell? ⟨w.heap.size, 0, none⟩ = some (.int .u8 el) := hB1.cell 0
    have e0 : w1.cell? ⟨w.heap.size + 1, 0, none⟩ = some (.int .u8 t) := hC1.cell 0
    have e1 : w1.cell? ⟨w.heap.size + 1, 1, none⟩ = some (.int .u64 lo) := hC1.cell 1
    have e2 : w1.cell? ⟨w.heap.size + 1, 2, none⟩ = some (.int .u64 hi) := hC1.cell 2
    have hk1 := hk0.then0 hk
    clear hB hC hB1 hC1 hk hk0
    go_wp2_with fail
    refine (fits_ref _ _ _ _ _ hel.out).mono ?_
    rintro e w2 ⟨rfl, hk2⟩
    rw [HF.out]
    go_wp2_with fail
    go_ret2
    exact ⟨rfl, hk1.then0 hk2⟩
set_option maxHeartbeats 1600000 in
theorem newtab_limit (h1 : 16384 < mn) (h2 : mn ≤ 4294967295) (h3 : 0 ≤ mx) (h4 : mx ≤ 4294967295) (hm : mayTabB el mn mx bd = true) (hf : fitB t lo hi el = true) :
    Calls Tryz.prog 88 #[.agg #[.int .u8 el, .int .u32 mn, .int .u32 mx, .bool bd], .agg #[.int .u8 t, .int .u64 lo, .int .u64 hi]] w fun e w' => e = .returned (.tuple #[.pointer none, .int .i64 3]) ∧ Kept S0 w w' := by
  have hk0 : Kept S0 w ((w.alloc (.cells #[.int .u8 el, .int .u32 mn, .int .u32 mx, .bool bd] 31)).alloc (.cells #[.int .u8 t, .int .u64 lo, .int .u64 hi] 65)) := ((Kept.refl S0 w).alloc _).alloc _
  have hB := (Blk.new w 31 #[.int .u8 el, .int .u32 mn, .int .u32 mx, .bool bd]).alloc (.cells #[.int .u8 t, .int .u64 lo, .int .u64 hi] 65)
  have hC := Blk.new1 w (.cells #[.int .u8 el, .int .u32 mn, .int .u32 mx, .bool bd] 31) 65 #[.int .u8 t, .int .u64 lo, .int .u64 hi]
  have hel := Lib.hid (isRef_of hm)
  have HF := Lib.hid hf
  have HM := Lib.hid hm
  clear hm hf
  go_enter Tryz.func88, Tryz.ntmps88
  go_wp2_with fail
  refine (maytab_any _ _ _ _ _ (by omega) h2 h3 h4).mono ?_
  rintro e w1 ⟨rfl, hk⟩
  rw [HM.out]
  have hB1 := hk.blk hB (fun x => x)
  have hC1 := hk.blk hC (fun x => x)
  have d0 : w1.cell? ⟨w.heap.size, 0, none⟩ = some (.int .u8 el) := hB1.cell 0
  have e0 : w1.cell? ⟨w.heap.size + 1, 0, none⟩ = some (.int .u8 t) := hC1.cell 0
  have e1 : w1.cell? ⟨w.heap.size + 1, 1, none⟩ = some (.int .u64 lo) := hC1.cell 1
  have e2 : w1.cell? ⟨w.heap.size + 1, 2, none⟩ = some (.int .u64 hi) := hC1.cell 2
  have hk1 := hk0.then0 hk
  clear hB hC hC1 hk hk0
  go_wp2_with fail
  refine (fits_ref _ _ _ _ _ hel.out).mono ?_
  rintro e w2 ⟨rfl, hk2⟩
  rw [HF.out]
  have hB2 := hk2.blk hB1 (fun x => x)
  have f1 : w2.cell? ⟨w.heap.size, 1, none⟩ = some (.int .u32 mn) := hB2.cell 1
  go_wp2_with fail
  go_ret2
  exact ⟨rfl, hk1.then0 hk2⟩
end
set_option maxHeartbeats 1600000 in
theorem newtab_made (el mx : Int) (mn : Nat) (bd : Bool) (x : V3) (w : World) (h1 : mn ≤ 16384) (h3 : 0 ≤ mx) (h4 : mx ≤ 4294967295) (hm : mayTabB el mn mx bd = true) (hf : fitB x.t x.lo x.hi el = true) :
    Calls Tryz.prog 88 #[.agg #[.int .u8 el, .int .u32 (mn : Int), .int .u32 mx, .bool bd], .agg #[.int .u8 x.t, .int .u64 x.lo, .int .u64 x.hi]] w fun e w' => ∃ tb lv, e = .returned (.tuple #[.pointer (some ⟨tb, 0, none⟩), .int .i64 0]) ∧ TabAt w' tb w.heap.size mn el mn mx bd lv (fun _ => x) ∧ Kept S0 w w' := by
  have hk0 : Kept S0 w ((w.alloc (.cells #[.int .u8 el, .int .u32 mn, .int .u32 mx, .bool bd] 31)).alloc (.cells #[.int .u8 x.t, .int .u64 x.lo, .int .u64 x.hi] 65)) := ((Kept.refl S0 w).alloc _).alloc _
  have hB := (Blk.new w 31 #[.int .u8 el, .int .u32 mn, .int .u32 mx, .bool bd]).alloc (.cells #[.int .u8 x.t, .int .u64 x.lo, .int .u64 x.hi] 65)
  have hC := Blk.new1 w (.cells #[.int .u8 el, .int .u32 mn, .int .u32 mx, .bool bd] 31) 65 #[.int .u8 x.t, .int .u64 x.lo, .int .u64 x.hi]
  have hel := Lib.hid (isRef_of hm)
  have HF := Lib.hid hf
  have HM := Lib.hid hm
  have u1 : IntKind.i64.wrap (mn : Int) = (mn : Int) := IntWalk.i64_in _ (by omega)
  clear hm hf
  go_enter Tryz.func88, Tryz.ntmps88
  go_wp2_with fail
  refine (maytab_any _ _ _ _ _ (by omega) (by omega) h3 h4).mono ?_
  rintro e w1 ⟨rfl, hk⟩
  rw [HM.out]
  have hB1 := hk.blk hB (fun x => x)
  have hC1 := hk.blk hC (fun x => x)
  have d0 : w1.cell? ⟨w.heap.size, 0, none⟩ = some (.int .u8 el) := hB1.cell 0
  have e0 : w1.cell? ⟨w.heap.size + 1, 0, none⟩ = some (.int .u8 x.t) := hC1.cell 0
  have e1 : w1.cell? ⟨w.heap.size + 1, 1, none⟩ = some (.int .u64 x.lo) := hC1.cell 1
  have e2 : w1.cell? ⟨w.heap.size + 1, 2, none⟩ = some (.int .u64 x.hi) := hC1.cell 2
  have hk1 := hk0.then0 hk
  clear hB hC hk hk0
  go_wp2_with fail
  refine (fits_ref _ _ _ _ _ hel.out).mono ?_
  rintro e w2 ⟨rfl, hk2⟩
  rw [HF.out]
  have hB2 := hk2.blk hB1 (fun x => x)
  have hC2 := hk2.blk hC1 (fun x => x)
  have f0 : w2.cell? ⟨w.heap.size, 0, none⟩ = some (.int .u8 el) := hB2.cell 0
  have f1 : w2.cell? ⟨w.heap.size, 1, none⟩ = some (.int .u32 mn) := hB2.cell 1
  have f2 : w2.cell? ⟨w.heap.size, 2, none⟩ = some (.int .u32 mx) := hB2.cell 2
  have f3 : w2.cell? ⟨w.heap.size, 3, none⟩ = some (.bool bd) := hB2.cell 3
  have g0 : w2.cell? ⟨w.heap.size + 1, 0, none⟩ = some (.int .u8 x.t) := hC2.cell 0
  have g1 : w2.cell? ⟨w.heap.size + 1, 1, none⟩ = some (.int .u64 x.lo) := hC2.cell 1
  have g2 : w2.cell? ⟨w.heap.size + 1, 2, none⟩ = some (.int .u64 x.hi) := hC2.cell 2
  have hk3 := hk1.then0 hk2
  have hl1 := hB2.lt
  have hl2 := hC2.lt
  clear d0 e0 e1 e2 hB1 hC1 hk1 hk2 hB2 hC2
  have hT : TabAt (w2.alloc (.cells #[.bool true, .int .u8 el, .int .u32 (mn : Int), .int .u32 mx, .bool bd, .slice none 0 0] 140)) w2.heap.size w.heap.size 0 el mn mx bd (.slice none 0 0) (fun _ => x) :=
    ⟨Blk.new w2 _ _, Own.nil _ _ _ _ _ _, hk3.size⟩
  have hk4 : Kept S0 w (w2.alloc (.cells #[.bool true, .int .u8 el, .int .u32 (mn : Int), .int .u32 mx, .bool bd, .slice none 0 0] 140)) := hk3.alloc _
  go_wp2_with fail
  refine (more_any _ _ 0 mn _ _ _ _ _ _ x _ hT (by omega) hk4.size).mono ?_
  rintro e w3 ⟨rfl, lj, hT2, hk5, hblk⟩
  have hk6 : Kept S0 w w3 := hk4.trans_ hk5 (fun i hi => .inr (by
    rcases hi with hi | hi
    · rw [hi]; exact hk3.size
    · simp [Value.ownBlock] at hi))
  clear hT hk4 hk5 hk3
  go_wp2_with fail
  go_ret2
  rw [Nat.zero_add] at hT2
  exact ⟨_, lj, rfl, hT2.congr (fun i _ => by unfold afterV; split <;> rfl), hk6⟩
end Go.Proofs.YtlnkdnmeikpckaaGreat.T20
namespace Go.Proofs.YtlnkdnmeikpckaaGreat.T20
open Go.RowKit
set_option maxRecDepth 100000
set_option maxHeartbeats 800000 in
theorem rmay_any (mn mx top : Int) (bd : Bool) (w : World) (h1 : 0 ≤ mn) (h2 : mn ≤ 4294967295) (h3 : 0 ≤ mx) (h4 : mx ≤ 4294967295) (_h5 : 0 ≤ top) (_h6 : top ≤ 18446744073709551615) :
    Calls Tryz.prog 128 #[.agg #[.int .u32 mn, .int .u32 mx, .bool bd], .int .u64 top] w fun e w' => e = .returned (.bool (mayB mn mx bd top)) ∧ Kept S0 w w' := by
  have u1 : IntKind.u64.wrap mn = mn := IntWalk.u64_in _ (by omega)
  have u2 : IntKind.u64.wrap mx = mx := IntWalk.u64_in _ (by omega)
  cases bd with
  | true =>
    by_cases c1 : mn ≤ mx
    · have hb := Lib.hid (show mayB mn mx true top = decide (mx ≤ top) by
        unfold mayB
        by_cases c2 : mx ≤ top
        · rw [decide_eq_true c2]; simp; omega
        · rw [decide_eq_false c2]; simp; omega)
      go_enter Tryz.func128, Tryz.ntmps128
      go_wp2
      go_ret
      exact ⟨ret_bool (by rw [hb.out]), (Kept.refl _ _).alloc _⟩
    · have hb := Lib.hid (show mayB mn mx true top = false by simp [mayB]; omega)
      have c1' : decide (mn ≤ mx) = false := decide_eq_false c1
      clear c1
      go_enter Tryz.func128, Tryz.ntmps128
      go_wp2
      go_ret
      exact ⟨ret_bool (by rw [hb.out]), (Kept.refl _ _).alloc _⟩
  | false =>
    by_cases c1 : mn ≤ top
    · have hb := Lib.hid (show mayB mn mx false top = (mx == 0) by simp [mayB, c1])
      go_enter Tryz.func128, Tryz.ntmps128
      go_wp2
      go_ret
      exact ⟨ret_bool (by rw [hb.out]), (Kept.refl _ _).alloc _⟩
    · have hb := Lib.hid (show mayB mn mx false top = false by simp [mayB, c1])
      have c1' : decide (mn ≤ top) = false := decide_eq_false c1
      clear c1
      go_enter Tryz.func128, Tryz.ntmps128
      go_wp2
      go_ret
      exact ⟨ret_bool (by rw [hb.out]), (Kept.refl _ _).alloc _⟩
set_option maxHeartbeats 400000 in
theorem risref_any (el : Int) (w : World) : Calls Tryz.prog 98 #[.int .u8 el] w fun e w' => e = .returned (.bool (isRefB el)) ∧ w = w' := by
  by_cases h1 : el = 112
  · subst h1
    go_enter Tryz.func98, Tryz.ntmps98
    go_wp2
    go_ret
    exact ⟨rfl, rfl⟩
  · have h2 : (el == 112) = false := beq_eq_false_iff_ne.2 h1
    have HB := Lib.hid (show isRefB el = (el == 111) by simp [isRefB, h1])
    clear h1
    go_enter Tryz.func98, Tryz.ntmps98
    go_wp2
    go_ret
    exact ⟨ret_bool (by rw [HB.out]), rfl⟩
set_option maxHeartbeats 800000 in
theorem rmaytab_any (el mn mx : Int) (bd : Bool) (w : World) (h1 : 0 ≤ mn) (h2 : mn ≤ 4294967295) (h3 : 0 ≤ mx) (h4 : mx ≤ 4294967295) :
    Calls Tryz.prog 126 #[.agg #[.int .u8 el, .int .u32 mn, .int .u32 mx, .bool bd]] w fun e w' => e = .returned (.bool (mayTabB el mn mx bd)) ∧ Kept S0 w w' := by
  have hB := Blk.new w 31 #[.int .u8 el, .int .u32 mn, .int .u32 mx, .bool bd]
  have d0 : (w.alloc (.cells #[.int .u8 el, .int .u32 mn, .int .u32 mx, .bool bd] 31)).cell? ⟨w.heap.size, 0, none⟩ = some (.int .u8 el) := hB.cell 0
  have d1 : (w.alloc (.cells #[.int .u8 el, .int .u32 mn, .int .u32 mx, .bool bd] 31)).cell? ⟨w.heap.size, 1, none⟩ = some (.int .u32 mn) := hB.cell 1
  have d2 : (w.alloc (.cells #[.int .u8 el, .int .u32 mn, .int .u32 mx, .bool bd] 31)).cell? ⟨w.heap.size, 2, none⟩ = some (.int .u32 mx) := hB.cell 2
  have d3 : (w.alloc (.cells #[.int .u8 el, .int .u32 mn, .int .u32 mx, .bool bd] 31)).cell? ⟨w.heap.size, 3, none⟩ = some (.bool bd) := hB.cell 3
  cases hr : isRefB el with
  | true =>
    have HB := Lib.hid (show mayTabB el mn mx bd = mayB mn mx bd 4294967295 by simp [mayTabB, hr])
    have HR := Lib.hid hr
    clear hr
    go_enter Tryz.func126, Tryz.ntmps126
    go_wp2_with fail
    refine (risref_any _ _).mono ?_
    rintro e w1 ⟨rfl, rfl⟩
    rw [HR.out]
    go_wp2_with fail
    refine (rmay_any _ _ _ _ _ h1 h2 h3 h4 (by omega) (by omega)).mono ?_
    rintro e w1 ⟨rfl, hk⟩
    go_wp2_with fail
    go_ret
    exact ⟨ret_bool (by rw [HB.out]), ((Kept.refl S0 w).alloc _).then0 hk⟩
  | false =>
    have HB := Lib.hid (show mayTabB el mn mx bd = false by simp [mayTabB, hr])
    have HR := Lib.hid hr
    clear hr
    go_enter Tryz.func126, Tryz.ntmps126
    go_wp2_with fail
    refine (risref_any _ _).mono ?_
    rintro e w1 ⟨rfl, rfl⟩
    rw [HR.out]
    go_wp2_with fail
    go_ret
    exact ⟨ret_bool (by rw [HB.out]), (by repeat (first | exact Kept.refl _ _ | assumption | refine Kept.drew ?_ | refine Kept.alloc ?_ _ | refine Kept.setCell ?_ (.inr (by first | exact Nat.le_refl _ | (simp; done) | omega | (simp; omega))) _))⟩
set_option maxHeartbeats 800000 in
theorem rhas_ref (t lo hi : Int) (w : World) (ht : t = 112 ∨ t = 111) : Calls Tryz.prog 84 #[.agg #[.int .u8 t, .int .u64 lo, .int .u64 hi]] w fun e w' => e = .returned (.bool (refB lo hi)) ∧ Kept S0 w w' := by
  by_cases hh : lo ≤ 4294967296
  · have HB := Lib.hid (show refB lo hi = (hi == 0) by simp [refB, hh])
    rcases ht with rfl | rfl
    all_goals
      go_enter Tryz.func84, Tryz.ntmps84
      go_wp2
      go_ret
      exact ⟨ret_bool (by rw [HB.out]), (by repeat (first | exact Kept.refl _ _ | assumption | refine Kept.drew ?_ | refine Kept.alloc ?_ _ | refine Kept.setCell ?_ (.inr (by first | exact Nat.le_refl _ | (simp; done) | omega | (simp; omega))) _))⟩
  · have h0 : decide (lo ≤ 4294967296) = false := decide_eq_false hh
    have HB := Lib.hid (show refB lo hi = false by simp [refB, hh])
    clear hh
    rcases ht with rfl | rfl
    all_goals
      go_enter Tryz.func84, Tryz.ntmps84
      go_wp2
      go_ret
      exact ⟨ret_bool (by rw [HB.out]), (by repeat (first | exact Kept.refl _ _ | assumption | refine Kept.drew ?_ | refine Kept.alloc ?_ _ | refine Kept.setCell ?_ (.inr (by first | exact Nat.le_refl _ | (simp; done) | omega | (simp; omega))) _))⟩
set_option maxHeartbeats 800000 in
theorem ris_ref (t lo hi el : Int) (w : World) (he : el = 112 ∨ el = 111) : Calls Tryz.prog 99 #[.agg #[.int .u8 t, .int .u64 lo, .int .u64 hi], .int .u8 el] w fun e w' => e = .returned (.bool (fitB t lo hi el)) ∧ Kept S0 w w' := by
  by_cases ht : t = el
  · subst ht
    have h1 : (t == t) = true := beq_self_eq_true t
    have HB := Lib.hid (show fitB t lo hi t = refB lo hi by simp [fitB])
    have HE := Lib.hid he
    clear he
    go_enter Tryz.func99, Tryz.ntmps99
    go_wp2_with fail
    refine (rhas_ref t lo hi _ HE.out).mono ?_
    rintro e w1 ⟨rfl, hk⟩
    go_wp2_with fail
    go_ret
    exact ⟨ret_bool (by rw [HB.out]), ((Kept.refl S0 w).alloc _).then0 hk⟩
  · have h1 : (t == el) = false := beq_eq_false_iff_ne.2 ht
    have HB := Lib.hid (show fitB t lo hi el = false by simp [fitB, ht])
    clear he ht
    go_enter Tryz.func99, Tryz.ntmps99
    go_wp2_with fail
    go_ret
    exact ⟨ret_bool (by rw [HB.out]), (by repeat (first | exact Kept.refl _ _ | assumption | refine Kept.drew ?_ | refine Kept.alloc ?_ _ | refine Kept.setCell ?_ (.inr (by first | exact Nat.le_refl _ | (simp; done) | omega | (simp; omega))) _))⟩
set_option maxHeartbeats 400000 in
theorem rwithin_any (at_ n all : Int) (w : World) (h1 : 0 ≤ at_) (h2 : 0 ≤ n) (h3 : 0 ≤ all) (h4 : all ≤ 9223372036854775807) (h5 : at_ ≤ 4294967295) (h6 : n ≤ 4294967295) :
    Calls Tryz.prog 130 #[.int .u32 at_, .int .u32 n, .int .i64 all] w fun e w' => e = .returned (.bool (inB at_ n all)) ∧ w = w' := by
  have hw : IntKind.u64.wrap all = all := IntWalk.u64_in _ (by omega)
  have hw1 : IntKind.u64.wrap at_ = at_ := IntWalk.u64_in _ (by omega)
  have hw2 : IntKind.u64.wrap n = n := IntWalk.u64_in _ (by omega)
  have hw3 : IntKind.u64.wrap (at_ + n) = at_ + n := IntWalk.u64_in _ (by omega)
  have HB := Lib.hid (show inB at_ n all = decide (at_ + n ≤ all) from rfl)
  go_enter Tryz.func130, Tryz.ntmps130
  go_wp2
  go_ret
  exact ⟨ret_bool (by rw [HB.out]), rfl⟩
end Go.Proofs.YtlnkdnmeikpckaaGreat.T20
namespace Go.Proofs.YtlnkdnmeikpckaaGreat.T20
open Go.RowKit
set_option maxRecDepth 100000
def refCells (el mn mx : Int) (bd : Bool) (lv : Value) : Array Value := #[.int .u8 el, .int .u32 mn, .int .u32 mx, .bool bd, lv]
/-- One of the document's tables, known. -/
structure RefAt (w : World) (tb base n : Nat) (el mn mx : Int) (bd : Bool) (lv : Value) (f : Nat → V3) : Prop where
  obj : Blk w tb 160 (refCells el mn mx bd lv)
  own : Own w base 65 3 AnyV lv n (vcell f)
  lo : base ≤ tb
section
variable {w w' : World} {tb base n : Nat} {el mn mx : Int} {bd : Bool} {lv : Value} {f : Nat → V3}
theorem RefAt.c0 (h : RefAt w tb base n el mn mx bd lv f) : w.cell? ⟨tb, 0, none⟩ = some (.int .u8 el) := h.obj.cell 0
theorem RefAt.c2 (h : RefAt w tb base n el mn mx bd lv f) : w.cell? ⟨tb, 2, none⟩ = some (.int .u32 mx) := h.obj.cell 2
theorem RefAt.c3 (h : RefAt w tb base n el mn mx bd lv f) : w.cell? ⟨tb, 3, none⟩ = some (.bool bd) := h.obj.cell 3
theorem RefAt.c4 (h : RefAt w tb base n el mn mx bd lv f) : w.cell? ⟨tb, 4, none⟩ = some lv := h.obj.cell 4
theorem RefAt.ne (h : RefAt w tb base n el mn mx bd lv f) : lv.ownBlock ≠ some tb := h.own.ne_blk h.obj (by decide)
theorem RefAt.kept {S : Nat → Prop} (h : RefAt w tb base n el mn mx bd lv f) (hk : Kept S w w') (h1 : ¬ S tb) (h2 : ∀ g, lv.ownBlock = some g → ¬ S g) : RefAt w' tb base n el mn mx bd lv f := ⟨hk.blk h.obj h1, h.own.kept hk h2, h.lo⟩
theorem RefAt.kept0 (h : RefAt w tb base n el mn mx bd lv f) (hk : Kept S0 w w') : RefAt w' tb base n el mn mx bd lv f := h.kept hk (fun x => x) (fun _ _ x => x)
theorem RefAt.congr {g : Nat → V3} (h : RefAt w tb base n el mn mx bd lv f) (e : ∀ i, i < n → f i = g i) : RefAt w tb base n el mn mx bd lv g := ⟨h.obj, h.own.congr (vcell_congr e), h.lo⟩
theorem RefAt.drew (h : RefAt w tb base n el mn mx bd lv f) : RefAt w.drew tb base n el mn mx bd lv f := h.kept0 (Kept.refl S0 w).drew
set_option maxHeartbeats 1600000 in
theorem rgrow_bad (k : Int) (x : V3) (hm : RefAt w tb base n el mn mx bd lv f) (hel : el = 112 ∨ el = 111) (hf : fitB x.t x.lo x.hi el = false) :
    Calls Tryz.prog 115 #[.pointer (some ⟨tb, 0, none⟩), .int .u32 k, .agg #[.int .u8 x.t, .int .u64 x.lo, .int .u64 x.hi]] w fun e w' => e = .returned (.tuple #[.int .u32 0, .int .i64 2]) ∧ Kept S0 w w' := by
  have hka : Kept S0 w (w.alloc (.cells #[.int .u8 x.t, .int .u64 x.lo, .int .u64 x.hi] 65)) := (Kept.refl S0 w).alloc _
  have hm1 := hm.kept0 hka
  have c0 := hm1.c0
  have hB := Blk.new w 65 #[.int .u8 x.t, .int .u64 x.lo, .int .u64 x.hi]
  have e0 : (w.alloc (.cells #[.int .u8 x.t, .int .u64 x.lo, .int .u64 x.hi] 65)).cell? ⟨w.heap.size, 0, none⟩ = some (.int .u8 x.t) := hB.cell 0
  have e1 : (w.alloc (.cells #[.int .u8 x.t, .int .u64 x.lo, .int .u64 x.hi] 65)).cell? ⟨w.heap.size, 1, none⟩ = some (.int .u64 x.lo) := hB.cell 1
  have e2 : (w.alloc (.cells #[.int .u8 x.t, .int .u64 x.lo, .int .u64 x.hi] 65)).cell? ⟨w.heap.size, 2, none⟩ = some (.int .u64 x.hi) := hB.cell 2
  have HF := Lib.hid hf
  have HE := Lib.hid hel
  clear hm hm1 hB hf hel
  go_enter Tryz.func115, Tryz.ntmps115
  go_wp2_with fail
  generalize hw1 : w.alloc (.cells #[.int .u8 x.t, .int .u64 x.lo, .int .u64 x.hi] 65) = w1 at *
  have HW := Lib.hid hw1
  clear hw1
  go_still_tail 6, (by kernel_rfl)
  change wpList _ _ _ _ _ (World.drew _)
  go_wp2_with fail
  refine (ris_ref x.t x.lo x.hi el _ HE.out).mono ?_
  rintro e w2 ⟨rfl, hk⟩
  rw [HF.out]
  have hk1 := hka.drew.then0 hk
  go_wp2_with fail
  go_ret2
  exact ⟨rfl, hk1⟩
set_option maxHeartbeats 1600000 in
theorem rgrow_no (k : Nat) (x : V3) (hm : RefAt w tb base n el mn mx bd lv f) (hN : n ≤ 16384) (hk : k ≤ 4294967295) (h3 : 0 ≤ mx) (h4 : mx ≤ 4294967295) (hel : el = 112 ∨ el = 111) (hf : fitB x.t x.lo x.hi el = true) (hg : growB n k mx bd = false) :
    Calls Tryz.prog 115 #[.pointer (some ⟨tb, 0, none⟩), .int .u32 (k : Int), .agg #[.int .u8 x.t, .int .u64 x.lo, .int .u64 x.hi]] w fun e w' => e = .returned (.tuple #[.int .u32 4294967295, .int .i64 0]) ∧ Kept S0 w w' := by
  have hka : Kept S0 w (w.alloc (.cells #[.int .u8 x.t, .int .u64 x.lo, .int .u64 x.hi] 65)) := (Kept.refl S0 w).alloc _
  have hm1 := hm.kept0 hka
  have c0 := hm1.c0
  have hB := Blk.new w 65 #[.int .u8 x.t, .int .u64 x.lo, .int .u64 x.hi]
  have e0 : (w.alloc (.cells #[.int .u8 x.t, .int .u64 x.lo, .int .u64 x.hi] 65)).cell? ⟨w.heap.size, 0, none⟩ = some (.int .u8 x.t) := hB.cell 0
  have e1 : (w.alloc (.cells #[.int .u8 x.t, .int .u64 x.lo, .int .u64 x.hi] 65)).cell? ⟨w.heap.size, 1, none⟩ = some (.int .u64 x.lo) := hB.cell 1
  have e2 : (w.alloc (.cells #[.int .u8 x.t, .int .u64 x.lo, .int .u64 x.hi] 65)).cell? ⟨w.heap.size, 2, none⟩ = some (.int .u64 x.hi) := hB.cell 2
  have HF := Lib.hid hf
  have HE := Lib.hid hel
  have HM := Lib.hid hm1
  have u1 : IntKind.u64.wrap (k : Int) = (k : Int) := IntWalk.u64_in _ (by omega)
  have u2 : IntKind.u64.wrap (n : Int) = (n : Int) := IntWalk.u64_in _ (by omega)
  have u3 : IntKind.u64.wrap ((n : Int) + (k : Int)) = (n : Int) + (k : Int) := IntWalk.u64_in _ (by omega)
  have u4 : IntKind.u64.wrap mx = mx := IntWalk.u64_in _ (by omega)
  have hg2 : decide ((16384 : Int) < (n : Int) + (k : Int)) = true ∨ (decide ((16384 : Int) < (n : Int) + (k : Int)) = false ∧ bd = true ∧ decide (mx < (n : Int) + (k : Int)) = true) := by
    unfold growB at hg
    by_cases h : n + k ≤ 16384
    · refine .inr ⟨decide_eq_false (by omega), ?_⟩
      rw [decide_eq_true h] at hg
      simp at hg
      exact ⟨hg.1, decide_eq_true (by omega)⟩
    · exact .inl (decide_eq_true (by omega))
  have HG := Lib.hid hg2
  clear hm hm1 hB hf hel hg hg2
  go_enter Tryz.func115, Tryz.ntmps115
  go_wp2_with fail
  generalize hw1 : w.alloc (.cells #[.int .u8 x.t, .int .u64 x.lo, .int .u64 x.hi] 65) = w1 at *
  have HW := Lib.hid hw1
  clear hw1
  go_still_tail 6, (by kernel_rfl)
  change wpList _ _ _ _ _ (World.drew _)
  go_wp2_with fail
  refine (ris_ref x.t x.lo x.hi el _ HE.out).mono ?_
  rintro e w2 ⟨rfl, hk⟩
  rw [HF.out]
  have hk1 := hka.drew.then0 hk
  have hm2 := HM.out.drew.kept0 hk
  obtain ⟨A, c, rfl, _, _, _⟩ := hm2.own.out
  have d2 := hm2.c2
  have d3 := hm2.c3
  have d4 := hm2.c4
  clear c0 e0 e1 e2 hm2
  rcases HG.out with g1 | ⟨g1, rfl, g2⟩
  all_goals
    go_wp2_with fail
    go_ret2
    exact ⟨rfl, hk1⟩
/-- How long a slice in a cell is. -/
def lenAt (w : World) (b i : Nat) : Nat := match w.cell? ⟨b, i, none⟩ with | some (.slice _ n _) => n | _ => 0
theorem lenAt_is {w : World} {b i m c : Nat} {A : Option Addr} (h : w.cell? ⟨b, i, none⟩ = some (.slice A m c)) : lenAt w b i = m := by unfold lenAt; rw [h]
structure RMoreRel (w wr : World) (tb base n : Nat) (el mn mx : Int) (bd : Bool) (lv lj : Value) (f : Nat → V3) (x : V3) (bx : Nat) (j : Nat) : Prop where
  tab : RefAt wr tb base (n + j) el mn mx bd lj (afterV n f (fun _ => x))
  kept : Kept (ST tb lv) w wr
  block : lj.ownBlock = lv.ownBlock ∨ ∃ g, lj.ownBlock = some g ∧ w.heap.size ≤ g
  box : Blk wr bx 65 #[.int .u8 x.t, .int .u64 x.lo, .int .u64 x.hi]
  sep : lj.ownBlock ≠ some bx
  far : tb ≠ bx
theorem RMoreRel.step {w wr w1 w' : World} {tb base n bx j c : Nat} {el mn mx : Int} {bd : Bool} {lv v' : Value} {A : Option Addr} {f : Nat → V3} {x : V3}
    (h : RMoreRel w wr tb base n el mn mx bd lv (.slice A (n + j) c) f x bx j) (hk1 : Kept S0 wr w1)
    (ha : Appended w1 w' base 65 3 AnyV (.slice A (n + j) c) v' (n + j + 1) (after ((n + j) * 3) (vcell (afterV n f (fun _ => x))) (vcell (fun _ => x))) 1) :
    RMoreRel w (w'.setCell ⟨tb, 4, none⟩ v') tb base n el mn mx bd lv v' f x bx (j + 1) := by
  have hobj1 := hk1.blk h.tab.obj (fun x => x)
  have hbox1 := hk1.blk h.box (fun x => x)
  have hown2 : Own w' base 65 3 AnyV v' (n + j + 1) (vcell (afterV n f (fun _ => x))) := by
    have h2 := ha.own
    rw [after_vcell, afterV_step] at h2
    exact h2
  have hB6 : Blk w' tb 160 _ := (ha.grown.block tb hobj1.lt (fun e => h.tab.ne e.symm)).trans hobj1
  have hbox : Blk w' bx 65 _ := (ha.grown.block bx hbox1.lt (fun e => h.sep e.symm)).trans hbox1
  have hne2 := hown2.ne_blk hB6 (by decide)
  have hkW : Kept (ST tb lv) w w' := (h.kept.then0 hk1).grown ⟨ha.grown.os, ha.grown.tape, ha.grown.output, ha.grown.size, ha.grown.block⟩ (fun g hg => by
    rcases h.block with hb1 | ⟨g', hb1, hb2⟩
    · exact .inl (.inr (hb1 ▸ hg))
    · rw [hb1] at hg; cases hg; exact .inr hb2)
  refine ⟨⟨hB6.set_ 4 _, hown2.kept ((Kept.refl (S1 tb) w').setCell (p := ⟨tb, 4, none⟩) (.inl rfl) _) (fun g hg e => hne2 (by rw [hg]; exact congrArg some e)), h.tab.lo⟩, hkW.setCell (p := ⟨tb, 4, none⟩) (.inl (.inl rfl)) _, ?_, hbox.far (p := ⟨tb, 4, none⟩) (fun e => h.far e.symm) _, ?_, h.far⟩
  · rcases ha.block with e | e
    · rcases h.block with h1 | ⟨g', h1, h2⟩
      · exact .inl (e.trans h1)
      · exact .inr ⟨g', e.trans h1, h2⟩
    · exact .inr ⟨_, e, Nat.le_trans h.kept.size hk1.size⟩
  · rcases ha.block with e | e
    · rw [e]; exact h.sep
    · rw [e]; intro e2; have e3 := Option.some.inj e2; have := hbox1.lt; omega
set_option maxHeartbeats 3200000 in
theorem rgrow_yes (k : Nat) (x : V3) (hm : RefAt w tb base n el mn mx bd lv f) (hN : n ≤ 16384) (hk : k ≤ 4294967295) (h3 : 0 ≤ mx) (h4 : mx ≤ 4294967295) (hel : el = 112 ∨ el = 111) (hf : fitB x.t x.lo x.hi el = true) (hg : growB n k mx bd = true) (hb : base ≤ w.heap.size) :
    Calls Tryz.prog 115 #[.pointer (some ⟨tb, 0, none⟩), .int .u32 (k : Int), .agg #[.int .u8 x.t, .int .u64 x.lo, .int .u64 x.hi]] w fun e w' => e = .returned (.tuple #[.int .u32 (n : Int), .int .i64 0]) ∧ ∃ lj, RefAt w' tb base (n + k) el mn mx bd lj (afterV n f (fun _ => x)) ∧ Kept (ST tb lv) w w' ∧ (lj.ownBlock = lv.ownBlock ∨ ∃ g, lj.ownBlock = some g ∧ w.heap.size ≤ g) := by
  have hka : Kept S0 w (w.alloc (.cells #[.int .u8 x.t, .int .u64 x.lo, .int .u64 x.hi] 65)) := (Kept.refl S0 w).alloc _
  have hm1 := hm.kept0 hka
  have c0 := hm1.c0
  have hB := Blk.new w 65 #[.int .u8 x.t, .int .u64 x.lo, .int .u64 x.hi]
  have e0 : (w.alloc (.cells #[.int .u8 x.t, .int .u64 x.lo, .int .u64 x.hi] 65)).cell? ⟨w.heap.size, 0, none⟩ = some (.int .u8 x.t) := hB.cell 0
  have e1 : (w.alloc (.cells #[.int .u8 x.t, .int .u64 x.lo, .int .u64 x.hi] 65)).cell? ⟨w.heap.size, 1, none⟩ = some (.int .u64 x.lo) := hB.cell 1
  have e2 : (w.alloc (.cells #[.int .u8 x.t, .int .u64 x.lo, .int .u64 x.hi] 65)).cell? ⟨w.heap.size, 2, none⟩ = some (.int .u64 x.hi) := hB.cell 2
  have hsum : n + k ≤ 16384 := by
    by_cases h : n + k ≤ 16384
    · exact h
    · unfold growB at hg; rw [decide_eq_false h] at hg; simp at hg
  have HF := Lib.hid hf
  have HE := Lib.hid hel
  have HM := Lib.hid hm1
  have HBX := Lib.hid hB
  have HS := Lib.hid (show lv.ownBlock ≠ some w.heap.size from fun e => by have := (hm.own.lt _ e).2; omega)
  have HT := Lib.hid (show tb ≠ w.heap.size from fun e => by have := hm.obj.lt; omega)
  have u1 : IntKind.u64.wrap (k : Int) = (k : Int) := IntWalk.u64_in _ (by omega)
  have u2 : IntKind.u64.wrap (n : Int) = (n : Int) := IntWalk.u64_in _ (by omega)
  have u3 : IntKind.u64.wrap ((n : Int) + (k : Int)) = (n : Int) + (k : Int) := IntWalk.u64_in _ (by omega)
  have u4 : IntKind.u64.wrap mx = mx := IntWalk.u64_in _ (by omega)
  have u5 : IntKind.i64.wrap ((n : Int) + (k : Int)) = (n : Int) + (k : Int) := IntWalk.i64_in _ (by omega)
  have u6 : IntKind.u32.wrap (n : Int) = (n : Int) := IntWalk.u32_in _ (by omega)
  have g1 : decide ((16384 : Int) < (n : Int) + (k : Int)) = false := decide_eq_false (by omega)
  have hg2 : bd = false ∨ (bd = true ∧ decide (mx < (n : Int) + (k : Int)) = false) := by
    cases bd with
    | false => exact .inl rfl
    | true =>
      refine .inr ⟨rfl, decide_eq_false ?_⟩
      unfold growB at hg
      simp at hg
      omega
  have HG := Lib.hid hg2
  clear hm hm1 hB hf hel hg hg2
  go_enter Tryz.func115, Tryz.ntmps115
  go_wp2_with fail
  generalize hw1 : w.alloc (.cells #[.int .u8 x.t, .int .u64 x.lo, .int .u64 x.hi] 65) = w1 at *
  have HW := Lib.hid hw1
  clear hw1
  go_still_tail 6, (by kernel_rfl)
  change wpList _ _ _ _ _ (World.drew _)
  go_wp2_with fail
  refine (ris_ref x.t x.lo x.hi el _ HE.out).mono ?_
  rintro e w2 ⟨rfl, hk⟩
  rw [HF.out]
  have hk1 := hka.drew.then0 hk
  have hm2 := HM.out.drew.kept0 hk
  have hb2 := hk.blk (((Kept.refl S0 w1).drew).blk HBX.out (fun x => x)) (fun x => x)
  obtain ⟨A, c, hlv, _, _, _⟩ := hm2.own.out
  have d2 := hm2.c2
  have d3 := hm2.c3
  have d4 := hm2.c4
  rw [hlv] at d4
  have HR := Lib.hid (show RMoreRel w w2 tb base n el mn mx bd lv lv f x w.heap.size 0 from ⟨hm2.congr (fun i hi => by unfold afterV; rw [if_pos (by omega)]), hk1.of0 _, .inl rfl, hb2, HS.out, HT.out⟩)
  have HLV := Lib.hid hlv
  have hsz : base ≤ w2.heap.size := Nat.le_trans hb hk1.size
  clear c0 e0 e1 e2 hm2 HM HBX hb2 hlv
  rcases HG.out with rfl | ⟨rfl, g2⟩
  all_goals
   (go_wp2_with fail
    go_loopw [] (fun wr => ∃ (j : Nat) (lj : Value), j ≤ k ∧ base ≤ wr.heap.size ∧ RMoreRel w wr tb base n el mn mx _ lv lj f x w.heap.size j) (fun wr => n + k - lenAt wr tb 4)
    case atStart => exact ⟨0, lv, by omega, hsz, HR.out⟩
    case round =>
      clear HR d2 d3 d4
      obtain ⟨j, lj, hj, hbw, hr⟩ := hrel
      obtain ⟨Aj, cj, rfl, hnc, hcm, hsl⟩ := hr.tab.own.out
      have c4 := hr.tab.c4
      have z4 := hr.tab.obj.frozen 4
      have b0 := hr.box.cell 0
      have b1 := hr.box.cell 1
      have b2 := hr.box.cell 2
      by_cases hlt : j < k
      · have hjk : ((n + j : Nat) : Int) < (n : Int) + (k : Int) := by omega
        have hlt1 := hr.tab.obj.lt
        have hlt2 := hr.box.lt
        have C4 := Lib.hid c4
        have hownr := hr.tab.own
        have hobjr := hr.tab.obj
        have hne := hr.tab.ne
        have HRR := Lib.hid hr
        clear hr hsl
        go_wp2_with fail
        have hkb : Kept S0 wr (wr.alloc (.cells #[.int .u8 x.t, .int .u64 x.lo, .int .u64 x.hi] 65)) := (Kept.refl S0 wr).alloc _
        have hown1 := hownr.kept hkb (fun _ _ h => h)
        have hB1 := Blk.new wr 65 #[.int .u8 x.t, .int .u64 x.lo, .int .u64 x.hi]
        have hsl1 : Sl (wr.alloc (.cells #[.int .u8 x.t, .int .u64 x.lo, .int .u64 x.hi] 65)) (some ⟨wr.heap.size, 0, none⟩) (1 * 3) (vcell (fun _ => x)) := fun _ => ⟨wr.heap.size, 0, rfl, fun i hi => by
          match i, hi with
          | 0, _ => exact hB1.cell 0
          | 1, _ => exact hB1.cell 1
          | 2, _ => exact hB1.cell 2⟩
        have hobj1 := hobjr.alloc (.cells #[.int .u8 x.t, .int .u64 x.lo, .int .u64 x.hi] 65)
        have hsz1 : base ≤ (wr.alloc (.cells #[.int .u8 x.t, .int .u64 x.lo, .int .u64 x.hi] 65)).heap.size := Nat.le_trans hbw hkb.size
        have HKB := Lib.hid hkb
        clear hownr hobjr
        go_region_law (refine step_append_all rfl (.tmp 61) (.tmp 63) 70 rfl base 65 (.agg #[.int .u8 0, .int .u64 0, .int .u64 0]) 3 24 Tryz.underlying70 Tryz.infoV rfl (by decide) AnyV (fun _ _ => trivial) _ (n + j) (vcell (afterV n f (fun _ => x))) rfl hown1 (some ⟨wr.heap.size, 0, none⟩) 1 1 (vcell (fun _ => x)) rfl hsl1 (fun h => by cases h) (fun _ _ => trivial) (fun _ _ => vcell_one _ _) (by unfold maxLen; omega) (by omega) hsz1 ?_; intro v' w' ha; obtain ⟨A', c', rfl, _, _, _⟩ := ha.own.out; have hB5 := ha.grown.block tb (Nat.lt_of_lt_of_le hlt1 HKB.out.size) (fun e => hne e.symm); have hB6 : Blk w' tb 160 _ := hB5.trans hobj1; have d5 : w'.cell? ⟨tb, 4, none⟩ = some (.slice Aj (n + j) cj) := hB6.cell 4; have y5 := hB6.frozen 4; have HA := Lib.hid (show Appended _ w' base 65 3 AnyV (.slice Aj (n + j) cj) (.slice A' (n + j + 1) c') (n + j + 1) _ 1 from ha); clear ha hB5)
        go_wp2_with fail
        all_goals
         (go_roundw
          case rel =>
            have hst := HRR.out.step HKB.out.drew HA.out
            exact ⟨j + 1, _, by omega, Nat.le_trans hsz1 (Nat.le_trans HA.out.grown.size (by simp)), hst⟩
          case measure =>
            have hst := HRR.out.step HKB.out.drew HA.out
            have e1 := lenAt_is (C4.out)
            have e2 := lenAt_is hst.tab.c4
            rw [e1, e2]
            omega)
      · obtain rfl : j = k := by omega
        have HRR := Lib.hid hr
        clear hr
        go_wp2_with fail
        go_ret2
        exact ⟨rfl, _, HRR.out.tab, HRR.out.kept, HRR.out.block⟩)
structure RNewRel (w wr : World) (rb mn : Nat) (el mx : Int) (bd : Bool) (lj : Value) (x : V3) (j : Nat) : Prop where
  tab : RefAt wr rb w.heap.size j el mn mx bd lj (fun _ => x)
  kept : Kept S0 w wr
  tt : Blk wr w.heap.size 31 #[.int .u8 el, .int .u32 (mn : Int), .int .u32 mx, .bool bd]
  box : Blk wr (w.heap.size + 1) 65 #[.int .u8 x.t, .int .u64 x.lo, .int .u64 x.hi]
  own : ∀ g, lj.ownBlock = some g → w.heap.size + 1 < g
  rb : w.heap.size + 1 < rb
theorem RNewRel.step {w wr w1 w' : World} {rb mn j c : Nat} {el mx : Int} {bd : Bool} {v' : Value} {A : Option Addr} {x : V3}
    (h : RNewRel w wr rb mn el mx bd (.slice A j c) x j) (hk1 : Kept S0 wr w1)
    (ha : Appended w1 w' w.heap.size 65 3 AnyV (.slice A j c) v' (j + 1) (after (j * 3) (vcell (fun _ => x)) (vcell (fun _ => x))) 1) :
    RNewRel w (w'.setCell ⟨rb, 4, none⟩ v') rb mn el mx bd v' x (j + 1) := by
  have hobj1 := hk1.blk h.tab.obj (fun x => x)
  have hbox1 := hk1.blk h.box (fun x => x)
  have htt1 := hk1.blk h.tt (fun x => x)
  have hown2 : Own w' w.heap.size 65 3 AnyV v' (j + 1) (vcell (fun _ => x)) := by
    have h2 := ha.own
    rw [after_vcell, show afterV j (fun _ => x) (fun _ => x) = (fun _ => x) from by funext i; unfold afterV; split <;> rfl] at h2
    exact h2
  have hB6 : Blk w' rb 160 _ := (ha.grown.block rb hobj1.lt (fun e => h.tab.ne e.symm)).trans hobj1
  have hbox : Blk w' (w.heap.size + 1) 65 _ := (ha.grown.block _ hbox1.lt (fun e => by have := h.own _ e.symm; omega)).trans hbox1
  have htt : Blk w' w.heap.size 31 _ := (ha.grown.block _ htt1.lt (fun e => by have := h.own _ e.symm; omega)).trans htt1
  have hne2 := hown2.ne_blk hB6 (by decide)
  have hkW : Kept S0 w w' := (h.kept.then0 hk1).grown ⟨ha.grown.os, ha.grown.tape, ha.grown.output, ha.grown.size, ha.grown.block⟩ (fun g hg => .inr (by have := h.own g hg; omega))
  have hrb := h.rb
  refine ⟨⟨hB6.set_ 4 _, hown2.kept ((Kept.refl (S1 rb) w').setCell (p := ⟨rb, 4, none⟩) (.inl rfl) _) (fun g hg e => hne2 (by rw [hg]; exact congrArg some e)), h.tab.lo⟩, hkW.setCell (p := ⟨rb, 4, none⟩) (.inr (by show w.heap.size ≤ rb; omega)) _, htt.far (p := ⟨rb, 4, none⟩) (by show w.heap.size ≠ rb; omega) _, hbox.far (p := ⟨rb, 4, none⟩) (by show w.heap.size + 1 ≠ rb; omega) _, ?_, hrb⟩
  intro g hg
  rcases ha.block with e | e
  · exact h.own g (e ▸ hg)
  · rw [e] at hg
    cases hg
    have := hobj1.lt
    omega
end
section
variable (el mn mx t lo hi : Int) (bd : Bool) (w : World)
set_option maxHeartbeats 1600000 in
theorem rnew_arg (h1 : 0 ≤ mn) (h2 : mn ≤ 4294967295) (h3 : 0 ≤ mx) (h4 : mx ≤ 4294967295) (hf : mayTabB el mn mx bd = false ∨ fitB t lo hi el = false) :
    Calls Tryz.prog 90 #[.agg #[.int .u8 el, .int .u32 mn, .int .u32 mx, .bool bd], .agg #[.int .u8 t, .int .u64 lo, .int .u64 hi]] w fun e w' => e = .returned (.tuple #[.pointer none, .int .i64 2]) ∧ Kept S0 w w' := by
  have hk0 : Kept S0 w ((w.alloc (.cells #[.int .u8 el, .int .u32 mn, .int .u32 mx, .bool bd] 31)).alloc (.cells #[.int .u8 t, .int .u64 lo, .int .u64 hi] 65)) := ((Kept.refl S0 w).alloc _).alloc _
  have hB := (Blk.new w 31 #[.int .u8 el, .int .u32 mn, .int .u32 mx, .bool bd]).alloc (.cells #[.int .u8 t, .int .u64 lo, .int .u64 hi] 65)
  have hC := Blk.new1 w (.cells #[.int .u8 el, .int .u32 mn, .int .u32 mx, .bool bd] 31) 65 #[.int .u8 t, .int .u64 lo, .int .u64 hi]
  cases hm : mayTabB el mn mx bd with
  | false =>
    have HM := Lib.hid hm
    clear hm hf
    go_enter Tryz.func90, Tryz.ntmps90
    go_wp2_with fail
    refine (rmaytab_any _ _ _ _ _ h1 h2 h3 h4).mono ?_
    rintro e w1 ⟨rfl, hk⟩
    rw [HM.out]
    go_wp2_with fail
    go_ret2
    exact ⟨rfl, hk0.then0 hk⟩
  | true =>
    have hel := Lib.hid (isRef_of hm)
    have HF := Lib.hid (hf.resolve_left (by rw [hm]; simp))
    have HM := Lib.hid hm
    clear hm hf
    go_enter Tryz.func90, Tryz.ntmps90
    go_wp2_with fail
    refine (rmaytab_any _ _ _ _ _ h1 h2 h3 h4).mono ?_
    rintro e w1 ⟨rfl, hk⟩
    rw [HM.out]
    have hB1 := hk.blk hB (fun x => x)
    have hC1 := hk.blk hC (fun x => x)
    have d0 : w1.cell? ⟨w.heap.size, 0, none⟩ = some (.int .u8 el) := hB1.cell 0
    have e0 : w1.cell? ⟨w.heap.size + 1, 0, none⟩ = some (.int .u8 t) := hC1.cell 0
    have e1 : w1.cell? ⟨w.heap.size + 1, 1, none⟩ = some (.int .u64 lo) := hC1.cell 1
    have e2 : w1.cell? ⟨w.heap.size + 1, 2, none⟩ = some (.int .u64 hi) := hC1.cell 2
    have hk1 := hk0.then0 hk
    clear hB hC hB1 hC1 hk hk0
    go_wp2_with fail
    refine (ris_ref _ _ _ _ _ hel.out).mono ?_
    rintro e w2 ⟨rfl, hk2⟩
    rw [HF.out]
    go_wp2_with fail
    go_ret2
    exact ⟨rfl, hk1.then0 hk2⟩
set_option maxHeartbeats 1600000 in
theorem rnew_limit (h1 : 16384 < mn) (h2 : mn ≤ 4294967295) (h3 : 0 ≤ mx) (h4 : mx ≤ 4294967295) (hm : mayTabB el mn mx bd = true) (hf : fitB t lo hi el = true) :
    Calls Tryz.prog 90 #[.agg #[.int .u8 el, .int .u32 mn, .int .u32 mx, .bool bd], .agg #[.int .u8 t, .int .u64 lo, .int .u64 hi]] w fun e w' => e = .returned (.tuple #[.pointer none, .int .i64 3]) ∧ Kept S0 w w' := by
  have hk0 : Kept S0 w ((w.alloc (.cells #[.int .u8 el, .int .u32 mn, .int .u32 mx, .bool bd] 31)).alloc (.cells #[.int .u8 t, .int .u64 lo, .int .u64 hi] 65)) := ((Kept.refl S0 w).alloc _).alloc _
  have hB := (Blk.new w 31 #[.int .u8 el, .int .u32 mn, .int .u32 mx, .bool bd]).alloc (.cells #[.int .u8 t, .int .u64 lo, .int .u64 hi] 65)
  have hC := Blk.new1 w (.cells #[.int .u8 el, .int .u32 mn, .int .u32 mx, .bool bd] 31) 65 #[.int .u8 t, .int .u64 lo, .int .u64 hi]
  have hel := Lib.hid (isRef_of hm)
  have HF := Lib.hid hf
  have HM := Lib.hid hm
  clear hm hf
  go_enter Tryz.func90, Tryz.ntmps90
  go_wp2_with fail
  refine (rmaytab_any _ _ _ _ _ (by omega) h2 h3 h4).mono ?_
  rintro e w1 ⟨rfl, hk⟩
  rw [HM.out]
  have hB1 := hk.blk hB (fun x => x)
  have hC1 := hk.blk hC (fun x => x)
  have d0 : w1.cell? ⟨w.heap.size, 0, none⟩ = some (.int .u8 el) := hB1.cell 0
  have e0 : w1.cell? ⟨w.heap.size + 1, 0, none⟩ = some (.int .u8 t) := hC1.cell 0
  have e1 : w1.cell? ⟨w.heap.size + 1, 1, none⟩ = some (.int .u64 lo) := hC1.cell 1
  have e2 : w1.cell? ⟨w.heap.size + 1, 2, none⟩ = some (.int .u64 hi) := hC1.cell 2
  have hk1 := hk0.then0 hk
  clear hB hC hC1 hk hk0
  go_wp2_with fail
  refine (ris_ref _ _ _ _ _ hel.out).mono ?_
  rintro e w2 ⟨rfl, hk2⟩
  rw [HF.out]
  have hB2 := hk2.blk hB1 (fun x => x)
  have f1 : w2.cell? ⟨w.heap.size, 1, none⟩ = some (.int .u32 mn) := hB2.cell 1
  go_wp2_with fail
  go_ret2
  exact ⟨rfl, hk1.then0 hk2⟩
end
set_option maxHeartbeats 3200000 in
theorem rnew_made (el mx : Int) (mn : Nat) (bd : Bool) (x : V3) (w : World) (h1 : mn ≤ 16384) (h3 : 0 ≤ mx) (h4 : mx ≤ 4294967295) (hm : mayTabB el mn mx bd = true) (hf : fitB x.t x.lo x.hi el = true) :
    Calls Tryz.prog 90 #[.agg #[.int .u8 el, .int .u32 (mn : Int), .int .u32 mx, .bool bd], .agg #[.int .u8 x.t, .int .u64 x.lo, .int .u64 x.hi]] w fun e w' => ∃ tb lv, e = .returned (.tuple #[.pointer (some ⟨tb, 0, none⟩), .int .i64 0]) ∧ RefAt w' tb w.heap.size mn el mn mx bd lv (fun _ => x) ∧ Kept S0 w w' := by
  have hk0 : Kept S0 w ((w.alloc (.cells #[.int .u8 el, .int .u32 mn, .int .u32 mx, .bool bd] 31)).alloc (.cells #[.int .u8 x.t, .int .u64 x.lo, .int .u64 x.hi] 65)) := ((Kept.refl S0 w).alloc _).alloc _
  have hB := (Blk.new w 31 #[.int .u8 el, .int .u32 mn, .int .u32 mx, .bool bd]).alloc (.cells #[.int .u8 x.t, .int .u64 x.lo, .int .u64 x.hi] 65)
  have hC := Blk.new1 w (.cells #[.int .u8 el, .int .u32 mn, .int .u32 mx, .bool bd] 31) 65 #[.int .u8 x.t, .int .u64 x.lo, .int .u64 x.hi]
  have hel := Lib.hid (isRef_of hm)
  have HF := Lib.hid hf
  have HM := Lib.hid hm
  have u1 : IntKind.i64.wrap (mn : Int) = (mn : Int) := IntWalk.i64_in _ (by omega)
  clear hm hf
  go_enter Tryz.func90, Tryz.ntmps90
  go_wp2_with fail
  refine (rmaytab_any _ _ _ _ _ (by omega) (by omega) h3 h4).mono ?_
  rintro e w1 ⟨rfl, hk⟩
  rw [HM.out]
  have hB1 := hk.blk hB (fun x => x)
  have hC1 := hk.blk hC (fun x => x)
  have d0 : w1.cell? ⟨w.heap.size, 0, none⟩ = some (.int .u8 el) := hB1.cell 0
  have e0 : w1.cell? ⟨w.heap.size + 1, 0, none⟩ = some (.int .u8 x.t) := hC1.cell 0
  have e1 : w1.cell? ⟨w.heap.size + 1, 1, none⟩ = some (.int .u64 x.lo) := hC1.cell 1
  have e2 : w1.cell? ⟨w.heap.size + 1, 2, none⟩ = some (.int .u64 x.hi) := hC1.cell 2
  have hk1 := hk0.then0 hk
  clear hB hC hk hk0
  go_wp2_with fail
  refine (ris_ref _ _ _ _ _ hel.out).mono ?_
  rintro e w2 ⟨rfl, hk2⟩
  rw [HF.out]
  have hB2 := hk2.blk hB1 (fun x => x)
  have hC2 := hk2.blk hC1 (fun x => x)
  have f0 : w2.cell? ⟨w.heap.size, 0, none⟩ = some (.int .u8 el) := hB2.cell 0
  have f1 : w2.cell? ⟨w.heap.size, 1, none⟩ = some (.int .u32 (mn : Int)) := hB2.cell 1
  have f2 : w2.cell? ⟨w.heap.size, 2, none⟩ = some (.int .u32 mx) := hB2.cell 2
  have f3 : w2.cell? ⟨w.heap.size, 3, none⟩ = some (.bool bd) := hB2.cell 3
  have hk3 := hk1.then0 hk2
  have hl1 := hB2.lt
  have hl2 := hC2.lt
  clear d0 e0 e1 e2 hB1 hC1 hk1 hk2
  have HR := Lib.hid (show RNewRel w (w2.alloc (.cells (refCells el mn mx bd (.slice none 0 0)) 160)) w2.heap.size mn el mx bd (.slice none 0 0) x 0 from
    ⟨⟨Blk.new w2 _ _, Own.nil _ _ _ _ _ _, hk3.size⟩, hk3.alloc _, hB2.alloc _, hC2.alloc _, fun g hg => by simp [Value.ownBlock] at hg, hl2⟩)
  clear hB2 hC2 hk3
  go_wp2_with fail
  go_loopw [7] (fun i wr => ∃ (j : Nat) (lj : Value), i = .int .i64 (j : Int) ∧ j ≤ mn ∧ w.heap.size ≤ wr.heap.size ∧ RNewRel w wr w2.heap.size mn el mx bd lj x j) (fun i _ => mn - (intOf i).toNat)
  case atStart => exact ⟨0, _, rfl, by omega, HR.out.kept.size, HR.out⟩
  case round =>
    clear HR f0 f1 f2 f3
    obtain ⟨rb, hrb⟩ : ∃ rb, rb = w2.heap.size := ⟨_, rfl⟩
    rw [← hrb] at hrel ⊢
    obtain ⟨j, lj, rfl, hj, hbw, hr⟩ := hrel
    obtain ⟨Aj, cj, rfl, hnc, hcm, hsl⟩ := hr.tab.own.out
    have c4 := hr.tab.c4
    have z4 := hr.tab.obj.frozen 4
    have t1 := hr.tt.cell 1
    have b0 := hr.box.cell 0
    have b1 := hr.box.cell 1
    have b2 := hr.box.cell 2
    by_cases hlt : j < mn
    · have hji : (j : Int) < (mn : Int) := by omega
      have uj : IntKind.i64.wrap ((j : Int) + 1) = (j : Int) + 1 := IntWalk.i64_in _ (by omega)
      have hlt1 := hr.tab.obj.lt
      have hlt2 := hr.box.lt
      have hownr := hr.tab.own
      have hobjr := hr.tab.obj
      have hne := hr.tab.ne
      have HRR := Lib.hid hr
      clear hr hsl hrb
      go_wp2_with fail
      have hkb : Kept S0 wr (wr.alloc (.cells #[.int .u8 x.t, .int .u64 x.lo, .int .u64 x.hi] 65)) := (Kept.refl S0 wr).alloc _
      have hown1 := hownr.kept hkb (fun _ _ h => h)
      have hB1 := Blk.new wr 65 #[.int .u8 x.t, .int .u64 x.lo, .int .u64 x.hi]
      have hsl1 : Sl (wr.alloc (.cells #[.int .u8 x.t, .int .u64 x.lo, .int .u64 x.hi] 65)) (some ⟨wr.heap.size, 0, none⟩) (1 * 3) (vcell (fun _ => x)) := fun _ => ⟨wr.heap.size, 0, rfl, fun i hi => by
        match i, hi with
        | 0, _ => exact hB1.cell 0
        | 1, _ => exact hB1.cell 1
        | 2, _ => exact hB1.cell 2⟩
      have hobj1 := hobjr.alloc (.cells #[.int .u8 x.t, .int .u64 x.lo, .int .u64 x.hi] 65)
      have hsz1 : w.heap.size ≤ (wr.alloc (.cells #[.int .u8 x.t, .int .u64 x.lo, .int .u64 x.hi] 65)).heap.size := Nat.le_trans hbw hkb.size
      have HKB := Lib.hid hkb
      clear hownr hobjr
      go_region_law (refine step_append_all rfl (.tmp 37) (.tmp 39) 70 rfl w.heap.size 65 (.agg #[.int .u8 0, .int .u64 0, .int .u64 0]) 3 24 Tryz.underlying70 Tryz.infoV rfl (by decide) AnyV (fun _ _ => trivial) _ (j) (vcell (fun _ => x)) rfl hown1 (some ⟨wr.heap.size, 0, none⟩) 1 1 (vcell (fun _ => x)) rfl hsl1 (fun h => by cases h) (fun _ _ => trivial) (fun _ _ => vcell_one _ _) (by unfold maxLen; omega) (by omega) hsz1 ?_; intro v' w' ha; obtain ⟨A', c', rfl, _, _, _⟩ := ha.own.out; have hB5 := ha.grown.block rb (Nat.lt_of_lt_of_le hlt1 HKB.out.size) (fun e => hne e.symm); have hB6 : Blk w' rb 160 _ := hB5.trans hobj1; have d5 : w'.cell? ⟨rb, 4, none⟩ = some (.slice Aj (j) cj) := hB6.cell 4; have y5 := hB6.frozen 4; have HA := Lib.hid (show Appended _ w' w.heap.size 65 3 AnyV (.slice Aj (j) cj) (.slice A' (j + 1) c') (j + 1) _ 1 from ha); clear ha hB5)
      go_wp2_with fail
      all_goals
       (go_roundw
        case rel =>
          have hst := HRR.out.step HKB.out.drew HA.out
          exact ⟨j + 1, _, by go_num, by omega, Nat.le_trans hsz1 (Nat.le_trans HA.out.grown.size (by simp)), hst⟩
        case measure => simp [intOf]; omega)
    · obtain rfl : j = mn := by omega
      have HRR := Lib.hid hr
      clear hr
      go_wp2_with fail
      go_ret2
      exact ⟨_, _, rfl, HRR.out.tab, HRR.out.kept⟩
end Go.Proofs.YtlnkdnmeikpckaaGreat.T20
namespace Go.Proofs.YtlnkdnmeikpckaaGreat.T20
open Go.RowKit
set_option maxRecDepth 100000
section
variable {w : World} {tb base N : Nat} {el mn mx : Int} {bd : Bool} {lv : Value} {f : Nat → V3}
set_option maxHeartbeats 800000 in
theorem fill_bad (at_ n : Int) (x : V3) (hm : TabAt w tb base N el mn mx bd lv f) (hel : el = 112 ∨ el = 111) (hf : fitB x.t x.lo x.hi el = false) :
    Calls Tryz.prog 129 #[.pointer (some ⟨tb, 0, none⟩), .int .u32 at_, .agg #[.int .u8 x.t, .int .u64 x.lo, .int .u64 x.hi], .int .u32 n] w fun e w' => e = .returned (.int .i64 2) ∧ Kept S0 w w' := by
  have hka : Kept S0 w (w.alloc (.cells #[.int .u8 x.t, .int .u64 x.lo, .int .u64 x.hi] 65)) := (Kept.refl S0 w).alloc _
  have hm1 := hm.kept0 hka
  have c0 := hm1.c0
  have c1 := hm1.c1
  have hB := Blk.new w 65 #[.int .u8 x.t, .int .u64 x.lo, .int .u64 x.hi]
  have e0 : (w.alloc (.cells #[.int .u8 x.t, .int .u64 x.lo, .int .u64 x.hi] 65)).cell? ⟨w.heap.size, 0, none⟩ = some (.int .u8 x.t) := hB.cell 0
  have e1 : (w.alloc (.cells #[.int .u8 x.t, .int .u64 x.lo, .int .u64 x.hi] 65)).cell? ⟨w.heap.size, 1, none⟩ = some (.int .u64 x.lo) := hB.cell 1
  have e2 : (w.alloc (.cells #[.int .u8 x.t, .int .u64 x.lo, .int .u64 x.hi] 65)).cell? ⟨w.heap.size, 2, none⟩ = some (.int .u64 x.hi) := hB.cell 2
  have HF := Lib.hid hf
  have HE := Lib.hid hel
  clear hm hm1 hB hf hel
  go_enter Tryz.func129, Tryz.ntmps129
  go_wp2_with fail
  refine (off_made _ _ c0).mono ?_
  rintro e w1 ⟨rfl, rfl⟩
  go_wp2_with fail
  generalize hw1 : w.alloc (.cells #[.int .u8 x.t, .int .u64 x.lo, .int .u64 x.hi] 65) = w1 at *
  have HW := Lib.hid hw1
  clear hw1
  go_still_tail 6, (by kernel_rfl)
  change wpList _ _ _ _ _ (World.drew _)
  go_wp2_with fail
  refine (fits_ref x.t x.lo x.hi el _ HE.out).mono ?_
  rintro e w1 ⟨rfl, hk⟩
  rw [HF.out]
  have hk1 := hka.drew.then0 hk
  go_wp2_with fail
  go_ret
  exact ⟨rfl, hk1⟩
set_option maxHeartbeats 800000 in
theorem fill_trap (at_ n : Int) (x : V3) (hm : TabAt w tb base N el mn mx bd lv f) (hN : N ≤ 16384) (hel : el = 112 ∨ el = 111) (hf : fitB x.t x.lo x.hi el = true) (h1 : 0 ≤ at_) (h2 : 0 ≤ n) (h5 : at_ ≤ 4294967295) (h6 : n ≤ 4294967295) (ho : inB at_ n N = false) :
    Calls Tryz.prog 129 #[.pointer (some ⟨tb, 0, none⟩), .int .u32 at_, .agg #[.int .u8 x.t, .int .u64 x.lo, .int .u64 x.hi], .int .u32 n] w fun e w' => e = .returned (.int .i64 6) ∧ Kept S0 w w' := by
  obtain ⟨A, c, rfl, _, _, _⟩ := hm.own.out
  have hka : Kept S0 w (w.alloc (.cells #[.int .u8 x.t, .int .u64 x.lo, .int .u64 x.hi] 65)) := (Kept.refl S0 w).alloc _
  have hm1 := hm.kept0 hka
  have c0 := hm1.c0
  have c1 := hm1.c1
  have c5 := hm1.c5
  have hB := Blk.new w 65 #[.int .u8 x.t, .int .u64 x.lo, .int .u64 x.hi]
  have e0 : (w.alloc (.cells #[.int .u8 x.t, .int .u64 x.lo, .int .u64 x.hi] 65)).cell? ⟨w.heap.size, 0, none⟩ = some (.int .u8 x.t) := hB.cell 0
  have e1 : (w.alloc (.cells #[.int .u8 x.t, .int .u64 x.lo, .int .u64 x.hi] 65)).cell? ⟨w.heap.size, 1, none⟩ = some (.int .u64 x.lo) := hB.cell 1
  have e2 : (w.alloc (.cells #[.int .u8 x.t, .int .u64 x.lo, .int .u64 x.hi] 65)).cell? ⟨w.heap.size, 2, none⟩ = some (.int .u64 x.hi) := hB.cell 2
  have HF := Lib.hid hf
  have HE := Lib.hid hel
  have HO := Lib.hid ho
  have HM := Lib.hid hm1
  clear hm hm1 hB hf hel ho
  go_enter Tryz.func129, Tryz.ntmps129
  go_wp2_with fail
  refine (off_made _ _ c0).mono ?_
  rintro e w1 ⟨rfl, rfl⟩
  go_wp2_with fail
  generalize hw1 : w.alloc (.cells #[.int .u8 x.t, .int .u64 x.lo, .int .u64 x.hi] 65) = w1 at *
  have HW := Lib.hid hw1
  clear hw1
  go_still_tail 6, (by kernel_rfl)
  change wpList _ _ _ _ _ (World.drew _)
  go_wp2_with fail
  refine (fits_ref x.t x.lo x.hi el _ HE.out).mono ?_
  rintro e w2 ⟨rfl, hk⟩
  rw [HF.out]
  have hk1 := hka.drew.then0 hk
  have d5 := (HM.out.drew.kept0 hk).c5
  clear c0 c1 c5 e0 e1 e2
  go_wp2_with fail
  refine (within_any _ _ _ _ h1 h2 (by omega) (by omega) h5 h6).mono ?_
  rintro e w3 ⟨rfl, rfl⟩
  rw [HO.out]
  go_wp2_with fail
  go_ret
  exact ⟨rfl, hk1⟩
theorem overV_none (f : Nat → V3) (a : Nat) (v : Nat → V3) : overV f a 0 v = f := by funext i; unfold overV; rw [if_neg (by omega)]
theorem overV_more (f : Nat → V3) (a j : Nat) (x : V3) : overV (overV f a j (fun _ => x)) (a + j) 1 (fun _ => x) = overV f a (j + 1) (fun _ => x) := by
  funext i
  unfold overV
  by_cases h : a + j ≤ i ∧ i < a + j + 1
  · rw [if_pos h, if_pos (by omega)]
  · rw [if_neg h]
    by_cases h2 : a ≤ i ∧ i < a + j
    · rw [if_pos h2, if_pos (by omega)]
    · rw [if_neg h2, if_neg (by omega)]
/-- The blocks of an own slice. -/
def SO (lv : Value) : Nat → Prop := fun i => lv.ownBlock = some i
theorem own_set3 {w : World} {base g N cap : Nat} {fr : Nat → Value} {f : Nat → V3} (h1 : base ≤ g) (h2 : N ≤ cap) (h3 : cap ≤ maxLen) (hr : w.rowIs g 65 (cap * 3) fr) (hf : ∀ i, i < N * 3 → fr i = vcell f i) (k : Nat) (_hk : k < N) (x : V3) :
    Own (((w.setCell ⟨g, k * 3, none⟩ (.int .u8 x.t)).setCell ⟨g, k * 3 + 1, none⟩ (.int .u64 x.lo)).setCell ⟨g, k * 3 + 2, none⟩ (.int .u64 x.hi)).drew base 65 3 AnyV (.slice (some ⟨g, 0, none⟩) N cap) N (vcell (overV f k 1 (fun _ => x))) := by
  refine .inr ⟨g, cap, _, rfl, h1, h2, h3, World.rowIs.drew (((hr.set _ _).set _ _).set _ _), fun i hi => ?_, fun _ _ => trivial⟩
  rw [← overlay_vcell]
  unfold overlay
  by_cases e2 : i = k * 3 + 2
  · subst e2
    rw [if_pos rfl, if_pos (by omega), show k * 3 + 2 - k * 3 = 0 * 3 + 2 by omega, vcell_2]
  rw [if_neg e2]
  by_cases e1 : i = k * 3 + 1
  · subst e1
    rw [if_pos rfl, if_pos (by omega), show k * 3 + 1 - k * 3 = 0 * 3 + 1 by omega, vcell_1]
  rw [if_neg e1]
  by_cases e0 : i = k * 3
  · subst e0
    rw [if_pos rfl, if_pos (by omega), show k * 3 - k * 3 = 0 * 3 by omega, vcell_0]
  rw [if_neg e0, if_neg (by omega)]
  exact hf i hi
structure FillRel (w wr : World) (tb base N : Nat) (el mn mx : Int) (bd : Bool) (lv : Value) (f : Nat → V3) (a : Nat) (x : V3) (j : Nat) : Prop where
  tab : TabAt wr tb base N el mn mx bd lv (overV f a j (fun _ => x))
  kept : Kept (SO lv) w wr
  box : Blk wr w.heap.size 65 #[.int .u8 x.t, .int .u64 x.lo, .int .u64 x.hi]
set_option maxHeartbeats 1600000 in
theorem fill_in (a n : Nat) (x : V3) (hm : TabAt w tb base N el mn mx bd lv f) (hN : N ≤ 16384) (hel : el = 112 ∨ el = 111) (hf : fitB x.t x.lo x.hi el = true) (ha : a + n ≤ N) :
    Calls Tryz.prog 129 #[.pointer (some ⟨tb, 0, none⟩), .int .u32 (a : Int), .agg #[.int .u8 x.t, .int .u64 x.lo, .int .u64 x.hi], .int .u32 (n : Int)] w fun e w' => e = .returned (.int .i64 0) ∧ TabAt w' tb base N el mn mx bd lv (overV f a n (fun _ => x)) ∧ Kept (SO lv) w w' := by
  have hout := hm.own.out
  obtain ⟨A, c, hlv, _, _, _⟩ := hout
  have hka : Kept S0 w (w.alloc (.cells #[.int .u8 x.t, .int .u64 x.lo, .int .u64 x.hi] 65)) := (Kept.refl S0 w).alloc _
  have hm1 := hm.kept0 hka
  have c0 := hm1.c0
  have c1 := hm1.c1
  have c5 := hm1.c5
  have hB := Blk.new w 65 #[.int .u8 x.t, .int .u64 x.lo, .int .u64 x.hi]
  have e0 : (w.alloc (.cells #[.int .u8 x.t, .int .u64 x.lo, .int .u64 x.hi] 65)).cell? ⟨w.heap.size, 0, none⟩ = some (.int .u8 x.t) := hB.cell 0
  have e1 : (w.alloc (.cells #[.int .u8 x.t, .int .u64 x.lo, .int .u64 x.hi] 65)).cell? ⟨w.heap.size, 1, none⟩ = some (.int .u64 x.lo) := hB.cell 1
  have e2 : (w.alloc (.cells #[.int .u8 x.t, .int .u64 x.lo, .int .u64 x.hi] 65)).cell? ⟨w.heap.size, 2, none⟩ = some (.int .u64 x.hi) := hB.cell 2
  have hboxlt : ∀ g, lv.ownBlock = some g → g ≠ w.heap.size := fun g hg e => by have := (hm.own.lt g hg).2; omega
  have htblt : tb ≠ w.heap.size := by have := hm.obj.lt; omega
  have HF := Lib.hid hf
  have HE := Lib.hid hel
  have HM := Lib.hid hm1
  have HBX := Lib.hid hB
  have HBL := Lib.hid hboxlt
  have HLV := Lib.hid hlv
  have u1 : IntKind.i64.wrap (n : Int) = (n : Int) := IntWalk.i64_in _ (by omega)
  have u2 : IntKind.i64.wrap (a : Int) = (a : Int) := IntWalk.i64_in _ (by omega)
  clear hm hm1 hB hf hel hboxlt
  go_enter Tryz.func129, Tryz.ntmps129
  go_wp2_with fail
  refine (off_made _ _ c0).mono ?_
  rintro e w1 ⟨rfl, rfl⟩
  go_wp2_with fail
  generalize hw1 : w.alloc (.cells #[.int .u8 x.t, .int .u64 x.lo, .int .u64 x.hi] 65) = w1 at *
  have HW := Lib.hid hw1
  clear hw1
  go_still_tail 6, (by kernel_rfl)
  change wpList _ _ _ _ _ (World.drew _)
  go_wp2_with fail
  refine (fits_ref x.t x.lo x.hi el _ HE.out).mono ?_
  rintro e w2 ⟨rfl, hk⟩
  rw [HF.out]
  have hk1 := hka.drew.then0 hk
  have hm2 := HM.out.drew.kept0 hk
  have hb2 := hk.blk (((Kept.refl S0 w1).drew).blk HBX.out (fun x => x)) (fun x => x)
  have d5 := hm2.c5
  rw [hlv] at d5
  clear c0 c1 c5 e0 e1 e2
  go_wp2_with fail
  refine (within_any _ _ _ _ (by omega) (by omega) (by omega) (by omega) (by omega) (by omega)).mono ?_
  rintro e w3 ⟨rfl, rfl⟩
  rw [inB_true ha]
  go_wp2_with fail
  have HK := Lib.hid hk1
  have HM2 := Lib.hid hm2
  have HB2 := Lib.hid hb2
  clear HM HBX HW HF HE hka hk hk1 hm2 hb2 d5 hlv
  go_loopw [34] (fun i wr => ∃ j : Nat, j ≤ n ∧ i = .int .i64 (j : Int) ∧ FillRel w wr tb base N el mn mx bd lv f a x j) (fun i _ => n - (intOf i).toNat)
  case atStart => exact ⟨0, by omega, rfl, by rw [overV_none]; exact HM2.out, HK.out.of0 _, HB2.out⟩
  case round =>
    clear HM2 HK HB2
    obtain ⟨j, hj, rfl, hr⟩ := hrel
    by_cases hlt : j < n
    · rcases hr.tab.own with ⟨_, h0⟩ | ⟨g, cap, fr, hlv, hbg, hNc, hcm, hrow, hF, hQ⟩
      · omega
      obtain ⟨k, hkk⟩ : ∃ k : Nat, k = a + j := ⟨_, rfl⟩
      have u3 : IntKind.i64.wrap ((a : Int) + (j : Int)) = (k : Int) := by rw [IntWalk.i64_in _ (by omega)]; omega
      have hkN : k < N := by omega
      have HKK := Lib.hid hkk
      have c0 := hr.tab.c0
      have c5 := hr.tab.c5
      rw [hlv] at c5
      have b0 := hr.box.cell 0
      have b1 := hr.box.cell 1
      have b2 := hr.box.cell 2
      have d0 : wr.cell? ⟨g, k * 3, none⟩ = some (fr (k * 3)) := hrow.cell (by omega)
      have d1 : wr.cell? ⟨g, k * 3 + 1, none⟩ = some (fr (k * 3 + 1)) := hrow.cell (by omega)
      have d2 : wr.cell? ⟨g, k * 3 + 2, none⟩ = some (fr (k * 3 + 2)) := hrow.cell (by omega)
      have z0 := hrow.frozen (k * 3)
      have z1 := hrow.frozen (k * 3 + 1)
      have z2 := hrow.frozen (k * 3 + 2)
      have HR := Lib.hid hr
      have HROW := Lib.hid hrow
      have HFF := Lib.hid hF
      clear hr hrow hF hQ hkk
      go_wp2_with fail
      go_still_tail 10, (by kernel_rfl)
      change wpList _ _ _ _ _ (World.drew _)
      go_wp2_with fail
      go_roundw
      case rel =>
        have hrr := HR.out
        have hob : lv.ownBlock = some g := by rw [hlv]; rfl
        have hgb := hrr.tab.own.ne_blk hrr.tab.obj (by decide)
        have hgt : g ≠ tb := fun e => hgb (by rw [hob, e])
        have hkk := HKK.out
        subst hkk
        have hk3 : Kept (SO lv) wr ((((wr.setCell ⟨g, (a + j) * 3, none⟩ (.int .u8 x.t)).setCell ⟨g, (a + j) * 3 + 1, none⟩ (.int .u64 x.lo)).setCell ⟨g, (a + j) * 3 + 2, none⟩ (.int .u64 x.hi)).drew) :=
          ((((Kept.refl (SO lv) wr).setCell (p := ⟨g, (a + j) * 3, none⟩) (.inl hob) _).setCell (p := ⟨g, (a + j) * 3 + 1, none⟩) (.inl hob) _).setCell (p := ⟨g, (a + j) * 3 + 2, none⟩) (.inl hob) _).drew
        refine ⟨j + 1, by omega, by go_num, ⟨hk3.blk hrr.tab.obj (fun e => hgt (Option.some.inj (hob.symm.trans e))), ?_, hrr.tab.lo⟩, hrr.kept.trans hk3, hk3.blk hrr.box (fun e => HBL.out _ e rfl)⟩
        rw [← overV_more, hlv]
        exact own_set3 hbg hNc hcm HROW.out HFF.out (a + j) hkN x
      case measure => simp [intOf]; omega
    · obtain rfl : j = n := by omega
      go_wp2_with fail
      go_ret
      exact ⟨rfl, hr.tab, hr.kept⟩
end
end Go.Proofs.YtlnkdnmeikpckaaGreat.T20
namespace Go.Proofs.YtlnkdnmeikpckaaGreat.T20
open Go.RowKit
set_option maxRecDepth 100000
section
variable {w : World} {tb base N : Nat} {el mn mx : Int} {bd : Bool} {lv : Value} {f : Nat → V3}
set_option maxHeartbeats 800000 in
theorem rfill_bad (at_ n : Int) (x : V3) (hm : RefAt w tb base N el mn mx bd lv f) (hel : el = 112 ∨ el = 111) (hf : fitB x.t x.lo x.hi el = false) :
    Calls Tryz.prog 113 #[.pointer (some ⟨tb, 0, none⟩), .int .u32 at_, .agg #[.int .u8 x.t, .int .u64 x.lo, .int .u64 x.hi], .int .u32 n] w fun e w' => e = .returned (.int .i64 2) ∧ Kept S0 w w' := by
  have hka : Kept S0 w (w.alloc (.cells #[.int .u8 x.t, .int .u64 x.lo, .int .u64 x.hi] 65)) := (Kept.refl S0 w).alloc _
  have hm1 := hm.kept0 hka
  have c0 := hm1.c0
  have hB := Blk.new w 65 #[.int .u8 x.t, .int .u64 x.lo, .int .u64 x.hi]
  have e0 : (w.alloc (.cells #[.int .u8 x.t, .int .u64 x.lo, .int .u64 x.hi] 65)).cell? ⟨w.heap.size, 0, none⟩ = some (.int .u8 x.t) := hB.cell 0
  have e1 : (w.alloc (.cells #[.int .u8 x.t, .int .u64 x.lo, .int .u64 x.hi] 65)).cell? ⟨w.heap.size, 1, none⟩ = some (.int .u64 x.lo) := hB.cell 1
  have e2 : (w.alloc (.cells #[.int .u8 x.t, .int .u64 x.lo, .int .u64 x.hi] 65)).cell? ⟨w.heap.size, 2, none⟩ = some (.int .u64 x.hi) := hB.cell 2
  have HF := Lib.hid hf
  have HE := Lib.hid hel
  clear hm hm1 hB hf hel
  go_enter Tryz.func113, Tryz.ntmps113
  go_wp2_with fail
  generalize hw1 : w.alloc (.cells #[.int .u8 x.t, .int .u64 x.lo, .int .u64 x.hi] 65) = w1 at *
  have HW := Lib.hid hw1
  clear hw1
  go_still_tail 6, (by kernel_rfl)
  change wpList _ _ _ _ _ (World.drew _)
  go_wp2_with fail
  refine (ris_ref x.t x.lo x.hi el _ HE.out).mono ?_
  rintro e w1 ⟨rfl, hk⟩
  rw [HF.out]
  have hk1 := hka.drew.then0 hk
  go_wp2_with fail
  go_ret
  exact ⟨rfl, hk1⟩
set_option maxHeartbeats 800000 in
theorem rfill_trap (at_ n : Int) (x : V3) (hm : RefAt w tb base N el mn mx bd lv f) (hN : N ≤ 16384) (hel : el = 112 ∨ el = 111) (hf : fitB x.t x.lo x.hi el = true) (h1 : 0 ≤ at_) (h2 : 0 ≤ n) (h5 : at_ ≤ 4294967295) (h6 : n ≤ 4294967295) (ho : inB at_ n N = false) :
    Calls Tryz.prog 113 #[.pointer (some ⟨tb, 0, none⟩), .int .u32 at_, .agg #[.int .u8 x.t, .int .u64 x.lo, .int .u64 x.hi], .int .u32 n] w fun e w' => e = .returned (.int .i64 6) ∧ Kept S0 w w' := by
  obtain ⟨A, c, rfl, _, _, _⟩ := hm.own.out
  have hka : Kept S0 w (w.alloc (.cells #[.int .u8 x.t, .int .u64 x.lo, .int .u64 x.hi] 65)) := (Kept.refl S0 w).alloc _
  have hm1 := hm.kept0 hka
  have c0 := hm1.c0
  have hB := Blk.new w 65 #[.int .u8 x.t, .int .u64 x.lo, .int .u64 x.hi]
  have e0 : (w.alloc (.cells #[.int .u8 x.t, .int .u64 x.lo, .int .u64 x.hi] 65)).cell? ⟨w.heap.size, 0, none⟩ = some (.int .u8 x.t) := hB.cell 0
  have e1 : (w.alloc (.cells #[.int .u8 x.t, .int .u64 x.lo, .int .u64 x.hi] 65)).cell? ⟨w.heap.size, 1, none⟩ = some (.int .u64 x.lo) := hB.cell 1
  have e2 : (w.alloc (.cells #[.int .u8 x.t, .int .u64 x.lo, .int .u64 x.hi] 65)).cell? ⟨w.heap.size, 2, none⟩ = some (.int .u64 x.hi) := hB.cell 2
  have HF := Lib.hid hf
  have HE := Lib.hid hel
  have HO := Lib.hid ho
  have HM := Lib.hid hm1
  clear hm hm1 hB hf hel ho
  go_enter Tryz.func113, Tryz.ntmps113
  go_wp2_with fail
  generalize hw1 : w.alloc (.cells #[.int .u8 x.t, .int .u64 x.lo, .int .u64 x.hi] 65) = w1 at *
  have HW := Lib.hid hw1
  clear hw1
  go_still_tail 6, (by kernel_rfl)
  change wpList _ _ _ _ _ (World.drew _)
  go_wp2_with fail
  refine (ris_ref x.t x.lo x.hi el _ HE.out).mono ?_
  rintro e w2 ⟨rfl, hk⟩
  rw [HF.out]
  have hk1 := hka.drew.then0 hk
  have d5 := (HM.out.drew.kept0 hk).c4
  clear c0 e0 e1 e2
  go_wp2_with fail
  refine (rwithin_any _ _ _ _ h1 h2 (by omega) (by omega) h5 h6).mono ?_
  rintro e w3 ⟨rfl, rfl⟩
  rw [HO.out]
  go_wp2_with fail
  go_ret
  exact ⟨rfl, hk1⟩
structure RFillRel (w wr : World) (tb base N : Nat) (el mn mx : Int) (bd : Bool) (lv : Value) (f : Nat → V3) (a : Nat) (x : V3) (bx : Nat) (j : Nat) : Prop where
  tab : RefAt wr tb base N el mn mx bd lv (overV f a j (fun _ => x))
  kept : Kept (SO lv) w wr
  box : Blk wr bx 65 #[.int .u8 x.t, .int .u64 x.lo, .int .u64 x.hi]
theorem RefAt.put3 {wr : World} (h : RefAt wr tb base N el mn mx bd lv f) {g cap : Nat} {fr : Nat → Value} (hlv : lv = .slice (some ⟨g, 0, none⟩) N cap) (hbg : base ≤ g) (hNc : N ≤ cap) (hcm : cap ≤ maxLen) (hrow : wr.rowIs g 65 (cap * 3) fr) (hF : ∀ i, i < N * 3 → fr i = vcell f i) (k : Nat) (hk : k < N) (x : V3) :
    RefAt (((wr.setCell ⟨g, k * 3, none⟩ (.int .u8 x.t)).setCell ⟨g, k * 3 + 1, none⟩ (.int .u64 x.lo)).setCell ⟨g, k * 3 + 2, none⟩ (.int .u64 x.hi)).drew tb base N el mn mx bd lv (overV f k 1 (fun _ => x)) ∧
    Kept (SO lv) wr (((wr.setCell ⟨g, k * 3, none⟩ (.int .u8 x.t)).setCell ⟨g, k * 3 + 1, none⟩ (.int .u64 x.lo)).setCell ⟨g, k * 3 + 2, none⟩ (.int .u64 x.hi)).drew := by
  have hob : lv.ownBlock = some g := by rw [hlv]; rfl
  have hgt : g ≠ tb := fun e => h.ne (by rw [hob, e])
  have hk3 : Kept (SO lv) wr ((((wr.setCell ⟨g, k * 3, none⟩ (.int .u8 x.t)).setCell ⟨g, k * 3 + 1, none⟩ (.int .u64 x.lo)).setCell ⟨g, k * 3 + 2, none⟩ (.int .u64 x.hi)).drew) :=
    ((((Kept.refl (SO lv) wr).setCell (p := ⟨g, k * 3, none⟩) (.inl hob) _).setCell (p := ⟨g, k * 3 + 1, none⟩) (.inl hob) _).setCell (p := ⟨g, k * 3 + 2, none⟩) (.inl hob) _).drew
  refine ⟨⟨hk3.blk h.obj (fun e => hgt (Option.some.inj (hob.symm.trans e))), ?_, h.lo⟩, hk3⟩
  rw [hlv]
  exact own_set3 hbg hNc hcm hrow hF k hk x
set_option maxHeartbeats 1600000 in
theorem rfill_in (a n : Nat) (x : V3) (hm : RefAt w tb base N el mn mx bd lv f) (hN : N ≤ 16384) (hel : el = 112 ∨ el = 111) (hf : fitB x.t x.lo x.hi el = true) (ha : a + n ≤ N) :
    Calls Tryz.prog 113 #[.pointer (some ⟨tb, 0, none⟩), .int .u32 (a : Int), .agg #[.int .u8 x.t, .int .u64 x.lo, .int .u64 x.hi], .int .u32 (n : Int)] w fun e w' => e = .returned (.int .i64 0) ∧ RefAt w' tb base N el mn mx bd lv (overV f a n (fun _ => x)) ∧ Kept (SO lv) w w' := by
  have hout := hm.own.out
  obtain ⟨A, c, hlv, _, _, _⟩ := hout
  have hka : Kept S0 w (w.alloc (.cells #[.int .u8 x.t, .int .u64 x.lo, .int .u64 x.hi] 65)) := (Kept.refl S0 w).alloc _
  have hm1 := hm.kept0 hka
  have c0 := hm1.c0
  have hB := Blk.new w 65 #[.int .u8 x.t, .int .u64 x.lo, .int .u64 x.hi]
  have e0 : (w.alloc (.cells #[.int .u8 x.t, .int .u64 x.lo, .int .u64 x.hi] 65)).cell? ⟨w.heap.size, 0, none⟩ = some (.int .u8 x.t) := hB.cell 0
  have e1 : (w.alloc (.cells #[.int .u8 x.t, .int .u64 x.lo, .int .u64 x.hi] 65)).cell? ⟨w.heap.size, 1, none⟩ = some (.int .u64 x.lo) := hB.cell 1
  have e2 : (w.alloc (.cells #[.int .u8 x.t, .int .u64 x.lo, .int .u64 x.hi] 65)).cell? ⟨w.heap.size, 2, none⟩ = some (.int .u64 x.hi) := hB.cell 2
  have hboxlt : ∀ g, lv.ownBlock = some g → g ≠ w.heap.size := fun g hg e => by have := (hm.own.lt g hg).2; omega
  have HF := Lib.hid hf
  have HE := Lib.hid hel
  have HM := Lib.hid hm1
  have HBX := Lib.hid hB
  have HBL := Lib.hid hboxlt
  have HLV := Lib.hid hlv
  have u1 : IntKind.i64.wrap (n : Int) = (n : Int) := IntWalk.i64_in _ (by omega)
  have u2 : IntKind.i64.wrap (a : Int) = (a : Int) := IntWalk.i64_in _ (by omega)
  clear hm hm1 hB hf hel hboxlt
  go_enter Tryz.func113, Tryz.ntmps113
  go_wp2_with fail
  generalize hw1 : w.alloc (.cells #[.int .u8 x.t, .int .u64 x.lo, .int .u64 x.hi] 65) = w1 at *
  have HW := Lib.hid hw1
  clear hw1
  go_still_tail 6, (by kernel_rfl)
  change wpList _ _ _ _ _ (World.drew _)
  go_wp2_with fail
  refine (ris_ref x.t x.lo x.hi el _ HE.out).mono ?_
  rintro e w2 ⟨rfl, hk⟩
  rw [HF.out]
  have hk1 := hka.drew.then0 hk
  have hm2 := HM.out.drew.kept0 hk
  have hb2 := hk.blk (((Kept.refl S0 w1).drew).blk HBX.out (fun x => x)) (fun x => x)
  have d5 := hm2.c4
  rw [hlv] at d5
  clear c0 e0 e1 e2
  go_wp2_with fail
  refine (rwithin_any _ _ _ _ (by omega) (by omega) (by omega) (by omega) (by omega) (by omega)).mono ?_
  rintro e w3 ⟨rfl, rfl⟩
  rw [inB_true ha]
  go_wp2_with fail
  have HK := Lib.hid hk1
  have HM2 := Lib.hid hm2
  have HB2 := Lib.hid hb2
  clear HM HBX HW HF HE hka hk hk1 hm2 hb2 d5 hlv
  go_loopw [9] (fun i wr => ∃ j : Nat, i = .int .i64 (j : Int) ∧ j ≤ n ∧ RFillRel w wr tb base N el mn mx bd lv f a x w.heap.size j) (fun i _ => n - (intOf i).toNat)
  case atStart => exact ⟨0, rfl, by omega, by rw [overV_none]; exact HM2.out, HK.out.of0 _, HB2.out⟩
  case round =>
    clear HM2 HK HB2
    obtain ⟨j, rfl, hj, hr⟩ := hrel
    by_cases hlt : j < n
    · rcases hr.tab.own with ⟨_, h0⟩ | ⟨g, cap, fr, hlv, hbg, hNc, hcm, hrow, hF, hQ⟩
      · omega
      obtain ⟨k, hkk⟩ : ∃ k : Nat, k = a + j := ⟨_, rfl⟩
      have u3 : IntKind.i64.wrap ((a : Int) + (j : Int)) = (k : Int) := by rw [IntWalk.i64_in _ (by omega)]; omega
      have hkN : k < N := by omega
      have hji : (j : Int) < (n : Int) := by omega
      have uj : IntKind.i64.wrap ((j : Int) + 1) = (j : Int) + 1 := IntWalk.i64_in _ (by omega)
      have HKK := Lib.hid hkk
      have c5 := hr.tab.c4
      rw [hlv] at c5
      have b0 := hr.box.cell 0
      have b1 := hr.box.cell 1
      have b2 := hr.box.cell 2
      have d0 : wr.cell? ⟨g, k * 3, none⟩ = some (fr (k * 3)) := hrow.cell (by omega)
      have d1 : wr.cell? ⟨g, k * 3 + 1, none⟩ = some (fr (k * 3 + 1)) := hrow.cell (by omega)
      have d2 : wr.cell? ⟨g, k * 3 + 2, none⟩ = some (fr (k * 3 + 2)) := hrow.cell (by omega)
      have z0 := hrow.frozen (k * 3)
      have z1 := hrow.frozen (k * 3 + 1)
      have z2 := hrow.frozen (k * 3 + 2)
      have HR := Lib.hid hr
      have HP := Lib.hid (hr.tab.put3 hlv hbg hNc hcm hrow hF k hkN x)
      have HLV2 := Lib.hid hlv
      clear hr hrow hF hQ hkk hlv
      go_wp2_with fail
      go_still_tail 9, (by kernel_rfl)
      change wpList _ _ _ _ _ (World.drew _)
      go_wp2_with fail
      go_roundw
      case rel =>
        have hrr := HR.out
        have hkk := HKK.out
        subst hkk
        have hp := HP.out
        refine ⟨j + 1, by go_num, by omega, ⟨?_, hrr.kept.trans hp.2, hp.2.blk hrr.box (fun e => HBL.out _ e rfl)⟩⟩
        rw [← overV_more]
        exact hp.1
      case measure => simp [intOf]; omega
    · obtain rfl : j = n := by omega
      go_wp2_with fail
      go_ret
      exact ⟨rfl, hr.tab, hr.kept⟩
end
end Go.Proofs.YtlnkdnmeikpckaaGreat.T20
namespace Go.Proofs.YtlnkdnmeikpckaaGreat.M19
open Go.RowKit
set_option maxRecDepth 100000
/-- A memory's object: its five cells. -/
def memCells (mn mx : Int) (bd : Bool) (bb n : Nat) : Array Value := #[.bool true, .int .u32 mn, .int .u32 mx, .bool bd, .slice (some ⟨bb, 0, none⟩) n n]
structure MemAt (w : World) (pb bb n : Nat) (mn mx : Int) (bd : Bool) (f : Nat → UInt8) : Prop where
  obj : Blk w pb 145 (memCells mn mx bd bb n)
  row : w.rowIs bb 5 n (fun i => .int .u8 ((f i).toNat : Int))
section
variable {w : World} {pb bb n : Nat} {mn mx : Int} {bd : Bool} {f : Nat → UInt8}
theorem MemAt.c0 (h : MemAt w pb bb n mn mx bd f) : w.cell? ⟨pb, 0, none⟩ = some (.bool true) := h.obj.cell 0
theorem MemAt.c2 (h : MemAt w pb bb n mn mx bd f) : w.cell? ⟨pb, 2, none⟩ = some (.int .u32 mx) := h.obj.cell 2
theorem MemAt.c3 (h : MemAt w pb bb n mn mx bd f) : w.cell? ⟨pb, 3, none⟩ = some (.bool bd) := h.obj.cell 3
theorem MemAt.c4 (h : MemAt w pb bb n mn mx bd f) : w.cell? ⟨pb, 4, none⟩ = some (.slice (some ⟨bb, 0, none⟩) n n) := h.obj.cell 4
end
set_option maxHeartbeats 400000 in
theorem off_made (pb : Nat) (w : World) (h0 : w.cell? ⟨pb, 0, none⟩ = some (.bool true)) :
    Calls Tryz.prog 47 #[.pointer (some ⟨pb, 0, none⟩)] w fun e w' => e = .returned (.bool false) ∧ w = w' := by
  go_enter Tryz.func47, Tryz.ntmps47
  go_wp2
  go_ret
  exact ⟨rfl, rfl⟩
set_option maxHeartbeats 400000 in
theorem pages_made (pb bb n : Nat) (w : World) (h0 : w.cell? ⟨pb, 0, none⟩ = some (.bool true)) (h4 : w.cell? ⟨pb, 4, none⟩ = some (.slice (some ⟨bb, 0, none⟩) n n)) (hn : n ≤ 1048576) :
    Calls Tryz.prog 48 #[.pointer (some ⟨pb, 0, none⟩)] w fun e w' => e = .returned (.int .u32 ((n / 65536 : Nat) : Int)) ∧ w = w' := by
  go_enter Tryz.func48, Tryz.ntmps48
  go_wp2_with (go_at_call 47; refine (off_made _ _ (by assumption)).mono ?_; rintro e w' ⟨rfl, rfl⟩)
  go_ret
  exact ⟨ret_int (by simp), rfl⟩
end Go.Proofs.YtlnkdnmeikpckaaGreat.M19
namespace Go.Proofs.YtlnkdnmeikpckaaGreat.M19
open Go.RowKit
set_option maxRecDepth 100000
theorem Tryz.info5 : (Tryz.prog.info? 5).map (fun i => (i.zero, i.size, i.bytes)) = some (some (.int .u8 0), 1, 1) := by kernel_rfl
end Go.Proofs.YtlnkdnmeikpckaaGreat.M19
namespace Go.Proofs.YtlnkdnmeikpckaaGreat.M19
open Go.RowKit
set_option maxRecDepth 100000
theorem Tryz.size5 : (Tryz.prog.info? 5).map (·.size) = some 1 := by kernel_rfl
section
variable {w : World} {pb bb N : Nat} {mn mx : Int} {bd : Bool} {f : Nat → UInt8}
end
end Go.Proofs.YtlnkdnmeikpckaaGreat.M19
namespace Go.Proofs.YtlnkdnmeikpckaaGreat.M19
open Go.RowKit
set_option maxRecDepth 100000
def zeroF : Nat → UInt8 := fun _ => 0
set_option maxHeartbeats 800000 in
theorem new_arg (mn mx : Int) (bd : Bool) (w : World) (h1 : 0 ≤ mn) (h2 : mn ≤ 4294967295) (h3 : 0 ≤ mx) (h4 : mx ≤ 4294967295) (hf : mayB mn mx bd 65536 = false) :
    Calls Tryz.prog 91 #[.agg #[.int .u32 mn, .int .u32 mx, .bool bd]] w fun e w' => e = .returned (.tuple #[.pointer none, .int .i64 2]) ∧ Kept S0 w w' := by
  have HF := Lib.hid hf; clear hf
  go_enter Tryz.func91, Tryz.ntmps91
  go_wp2_with (go_at_call 127; refine (may_any _ _ _ _ _ (by omega) (by omega) (by omega) (by omega) (by omega) (by omega)).mono ?_; rintro e w' ⟨rfl, hk⟩; rw [HF.out])
  go_ret2
  exact ⟨rfl, ((Kept.refl S0 w).alloc _).then0 hk⟩
set_option maxHeartbeats 800000 in
theorem new_limit (mn mx : Int) (bd : Bool) (w : World) (h1 : 16 < mn) (h2 : mn ≤ 4294967295) (h3 : 0 ≤ mx) (h4 : mx ≤ 4294967295) (hf : mayB mn mx bd 65536 = true) :
    Calls Tryz.prog 91 #[.agg #[.int .u32 mn, .int .u32 mx, .bool bd]] w fun e w' => e = .returned (.tuple #[.pointer none, .int .i64 3]) ∧ Kept S0 w w' := by
  have HF := Lib.hid hf; clear hf
  have hc : (w.alloc (.cells #[.int .u32 mn, .int .u32 mx, .bool bd] 29)).cell? ⟨w.heap.size, 0, none⟩ = some (.int .u32 mn) := (Blk.new w 29 _).cell 0
  go_enter Tryz.func91, Tryz.ntmps91
  go_wp2_with (go_at_call 127; refine (may_any _ _ _ _ _ (by omega) (by omega) (by omega) (by omega) (by omega) (by omega)).mono ?_; rintro e w' ⟨rfl, hk⟩; rw [HF.out]; have hc' := (hk.cell (p := ⟨w.heap.size, 0, none⟩) (by simp) (fun h => h)).trans hc; have HK := Lib.hid hk; clear hc hk)
  go_ret2
  exact ⟨rfl, ((Kept.refl S0 w).alloc _).then0 HK.out⟩
set_option maxHeartbeats 800000 in
theorem new_made (mn : Nat) (mx : Int) (bd : Bool) (w : World) (h1 : mn ≤ 16) (h3 : 0 ≤ mx) (h4 : mx ≤ 4294967295) (hf : mayB mn mx bd 65536 = true) :
    Calls Tryz.prog 91 #[.agg #[.int .u32 (mn : Int), .int .u32 mx, .bool bd]] w fun e w' => ∃ pb bb, e = .returned (.tuple #[.pointer (some ⟨pb, 0, none⟩), .int .i64 0]) ∧ MemAt w' pb bb (mn * 65536) mn mx bd zeroF ∧ w.heap.size ≤ pb ∧ w.heap.size ≤ bb ∧ Kept S0 w w' := by
  have HF := Lib.hid hf; clear hf
  obtain ⟨N, hN⟩ : ∃ N : Nat, N = mn * 65536 := ⟨_, rfl⟩
  have e1 : IntKind.i64.wrap (mn : Int) = (mn : Int) := IntWalk.i64_in _ (by omega)
  have e2 : IntKind.i64.wrap ((mn : Int) * 65536) = (N : Int) := by rw [IntWalk.i64_in _ (by omega)]; omega
  have hmk := fun W => run_make_row' (P := Tryz.prog) 71 5 (.int .u8 0) 1 Tryz.underlying71 Tryz.info5 rfl .i64 .i64 N (by omega) (by omega) W
  have HN := Lib.hid hN; clear hN
  have hB := Blk.new w 29 #[.int .u32 (mn : Int), .int .u32 mx, .bool bd]
  have hc0 : (w.alloc (.cells #[.int .u32 (mn : Int), .int .u32 mx, .bool bd] 29)).cell? ⟨w.heap.size, 0, none⟩ = some (.int .u32 mn) := hB.cell 0
  go_enter Tryz.func91, Tryz.ntmps91
  go_wp2_with (go_at_call 127; refine (may_any _ _ _ _ _ (by omega) (by omega) (by omega) (by omega) (by omega) (by omega)).mono ?_; rintro e w1 ⟨rfl, hk⟩; rw [HF.out]; have hB1 := hk.blk hB (fun h => h); have d0 := hB1.cell 0; have d1 := hB1.cell 1; have d2 := hB1.cell 2; have HK := Lib.hid hk; clear hc0 hk)
  have hlt : w.heap.size < w1.heap.size := hB1.lt
  clear hB hB1
  go_region
  go_wp2
  go_ret2
  have hk1 : Kept S0 w w1 := ((Kept.refl S0 w).alloc _).then0 HK.out
  obtain rfl := HN.out
  exact ⟨_, _, rfl, ⟨Blk.new1 w1 _ _ _, (World.rowIs_made w1 (.int .u8 0) _ 5).alloc _⟩, by omega, by omega, ((hk1.alloc _).alloc _).drew⟩
theorem MemAt.kept {w w' : World} {S : Nat → Prop} {pb bb n : Nat} {mn mx : Int} {bd : Bool} {f : Nat → UInt8} (h : MemAt w pb bb n mn mx bd f) (hk : Kept S w w') (h1 : ¬ S pb) (h2 : ¬ S bb) : MemAt w' pb bb n mn mx bd f := ⟨hk.blk h.obj h1, hk.row h.row h2⟩
theorem MemAt.congr {w : World} {pb bb n : Nat} {mn mx : Int} {bd : Bool} {f g : Nat → UInt8} (h : MemAt w pb bb n mn mx bd f) (e : ∀ i, i < n → f i = g i) : MemAt w pb bb n mn mx bd g := ⟨h.obj, h.row.congr fun i hi => by rw [e i hi]⟩
/-- What Grow answers when it may not. -/
def growB (N k : Nat) (mx : Int) (bd : Bool) : Bool := decide (N / 65536 + k ≤ 16) && (!bd || decide (((N / 65536 + k : Nat) : Int) ≤ mx))
set_option maxHeartbeats 800000 in
theorem grow_no (pb bb N k : Nat) (mn mx : Int) (bd : Bool) (f : Nat → UInt8) (w : World) (hm : MemAt w pb bb N mn mx bd f) (hN : N ≤ 1048576) (hk : k ≤ 4294967295) (h3 : 0 ≤ mx) (h4 : mx ≤ 4294967295) (hf : growB N k mx bd = false) :
    Calls Tryz.prog 116 #[.pointer (some ⟨pb, 0, none⟩), .int .u32 (k : Int)] w fun e w' => e = .returned (.tuple #[.int .u32 4294967295, .int .i64 0]) ∧ w = w' := by
  have c0 := hm.c0
  have c2 := hm.c2
  have c3 := hm.c3
  have c4 := hm.c4
  obtain ⟨P, hP⟩ : ∃ P : Nat, N / 65536 = P := ⟨_, rfl⟩
  have hP16 : P ≤ 16 := by omega
  have e1 : IntKind.u64.wrap (P : Int) = (P : Int) := IntWalk.u64_in _ (by omega)
  have e2 : IntKind.u64.wrap (k : Int) = (k : Int) := IntWalk.u64_in _ (by omega)
  have e3 : IntKind.u64.wrap ((P : Int) + (k : Int)) = (P : Int) + (k : Int) := IntWalk.u64_in _ (by omega)
  have e4 : IntKind.u64.wrap mx = mx := IntWalk.u64_in _ (by omega)
  unfold growB at hf
  rw [hP] at hf
  have pages := pages_made pb bb N w c0 c4 hN
  rw [hP] at pages
  have HP := Lib.hid pages
  clear hP pages
  by_cases g1 : (16 : Int) < (P : Int) + (k : Int)
  · have g1' : decide ((16 : Int) < (P : Int) + (k : Int)) = true := decide_eq_true g1
    clear hf
    go_enter Tryz.func116, Tryz.ntmps116
    go_wp2_with (first | (go_at_call 47; refine (off_made _ _ (by assumption)).mono ?_; rintro e w' ⟨rfl, rfl⟩) | (go_at_call 48; refine HP.out.mono ?_; rintro e w' ⟨rfl, rfl⟩))
    go_ret2
    exact ⟨rfl, rfl⟩
  · have g1' : decide ((16 : Int) < (P : Int) + (k : Int)) = false := decide_eq_false g1
    have g2 : bd = true ∧ mx < (P : Int) + (k : Int) := by
      rw [decide_eq_true (by omega : P + k ≤ 16)] at hf
      cases bd with
      | false => simp at hf
      | true =>
        refine ⟨rfl, ?_⟩
        simp at hf
        omega
    obtain ⟨rfl, g2⟩ := g2
    have g2' : decide (mx < (P : Int) + (k : Int)) = true := decide_eq_true g2
    clear hf g1 g2
    go_enter Tryz.func116, Tryz.ntmps116
    go_wp2_with (first | (go_at_call 47; refine (off_made _ _ (by assumption)).mono ?_; rintro e w' ⟨rfl, rfl⟩) | (go_at_call 48; refine HP.out.mono ?_; rintro e w' ⟨rfl, rfl⟩))
    go_ret2
    exact ⟨rfl, rfl⟩
end Go.Proofs.YtlnkdnmeikpckaaGreat.M19
