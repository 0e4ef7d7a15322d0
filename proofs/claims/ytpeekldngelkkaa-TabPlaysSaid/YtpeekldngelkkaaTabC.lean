/- Contracts of types.MayTable, of a table's New. No condition. -/
import Derived.Test.YtpeekldngelkkaaTabB
import Derived.Test.YtpeekldngelkkaaMay
namespace Go.Proofs.Ytpeekldngelkkaa
open Go.RowKit

def isRefB (el : Int) : Bool := (el == 112) || (el == 111)

set_option maxHeartbeats 400000 in
theorem isref_any (el : Int) (w : World) : Calls Try.prog 42 #[.int .u8 el] w fun e w' => e = .returned (.bool (isRefB el)) ∧ w = w' := by
  by_cases h1 : el = 112
  · subst h1
    go_enter Try.func42, Try.ntmps42
    go_wp2
    go_ret
    exact ⟨rfl, rfl⟩
  · have h2 : (el == 112) = false := beq_eq_false_iff_ne.2 h1
    have HB := Lib.hid (show isRefB el = (el == 111) by simp [isRefB, h1])
    clear h1
    go_enter Try.func42, Try.ntmps42
    go_wp2
    go_ret
    exact ⟨ret_bool (by rw [HB.out]), rfl⟩

def mayTabB (el mn mx : Int) (bd : Bool) : Bool := isRefB el && mayB mn mx bd 4294967295

set_option maxHeartbeats 800000 in
theorem maytab_any (el mn mx : Int) (bd : Bool) (w : World) (h1 : 0 ≤ mn) (h2 : mn ≤ 4294967295) (h3 : 0 ≤ mx) (h4 : mx ≤ 4294967295) :
    Calls Try.prog 30 #[.agg #[.int .u8 el, .int .u32 mn, .int .u32 mx, .bool bd]] w fun e w' => e = .returned (.bool (mayTabB el mn mx bd)) ∧ Kept S0 w w' := by
  have hB := Blk.new w 41 #[.int .u8 el, .int .u32 mn, .int .u32 mx, .bool bd]
  have d0 : (w.alloc (.cells #[.int .u8 el, .int .u32 mn, .int .u32 mx, .bool bd] 41)).cell? ⟨w.heap.size, 0, none⟩ = some (.int .u8 el) := hB.cell 0
  have d1 : (w.alloc (.cells #[.int .u8 el, .int .u32 mn, .int .u32 mx, .bool bd] 41)).cell? ⟨w.heap.size, 1, none⟩ = some (.int .u32 mn) := hB.cell 1
  have d2 : (w.alloc (.cells #[.int .u8 el, .int .u32 mn, .int .u32 mx, .bool bd] 41)).cell? ⟨w.heap.size, 2, none⟩ = some (.int .u32 mx) := hB.cell 2
  have d3 : (w.alloc (.cells #[.int .u8 el, .int .u32 mn, .int .u32 mx, .bool bd] 41)).cell? ⟨w.heap.size, 3, none⟩ = some (.bool bd) := hB.cell 3
  cases hr : isRefB el with
  | true =>
    have HB := Lib.hid (show mayTabB el mn mx bd = mayB mn mx bd 4294967295 by simp [mayTabB, hr])
    have HR := Lib.hid hr
    clear hr
    go_enter Try.func30, Try.ntmps30
    go_wp2_with fail
    refine (isref_any _ _).mono ?_
    rintro e w1 ⟨rfl, rfl⟩
    rw [HR.out]
    go_wp2_with fail
    refine (may_any _ _ _ _ _ h1 h2 h3 h4 (by omega) (by omega)).mono ?_
    rintro e w1 ⟨rfl, hk⟩
    go_wp2_with fail
    go_ret
    exact ⟨ret_bool (by rw [HB.out]), ((Kept.refl S0 w).alloc _).then0 hk⟩
  | false =>
    have HB := Lib.hid (show mayTabB el mn mx bd = false by simp [mayTabB, hr])
    have HR := Lib.hid hr
    clear hr
    go_enter Try.func30, Try.ntmps30
    go_wp2_with fail
    refine (isref_any _ _).mono ?_
    rintro e w1 ⟨rfl, rfl⟩
    rw [HR.out]
    go_wp2_with fail
    go_ret
    exact ⟨ret_bool (by rw [HB.out]), (by repeat (first | exact Kept.refl _ _ | assumption | refine Kept.drew ?_ | refine Kept.alloc ?_ _ | refine Kept.setCell ?_ (.inr (by first | exact Nat.le_refl _ | (simp; done) | omega | (simp; omega))) _))⟩

theorem isRef_of {el mn mx : Int} {bd : Bool} (h : mayTabB el mn mx bd = true) : el = 112 ∨ el = 111 := by
  unfold mayTabB isRefB at h
  simp at h
  omega

section
variable (el mn mx t lo hi : Int) (bd : Bool) (w : World)

set_option maxHeartbeats 1600000 in
theorem newtab_arg (h1 : 0 ≤ mn) (h2 : mn ≤ 4294967295) (h3 : 0 ≤ mx) (h4 : mx ≤ 4294967295) (hf : mayTabB el mn mx bd = false ∨ fitB t lo hi el = false) :
    Calls Try.prog 14 #[.agg #[.int .u8 el, .int .u32 mn, .int .u32 mx, .bool bd], .agg #[.int .u8 t, .int .u64 lo, .int .u64 hi]] w fun e w' => e = .returned (.tuple #[.pointer none, .int .i64 2]) ∧ Kept S0 w w' := by
  have hk0 : Kept S0 w ((w.alloc (.cells #[.int .u8 el, .int .u32 mn, .int .u32 mx, .bool bd] 41)).alloc (.cells #[.int .u8 t, .int .u64 lo, .int .u64 hi] 43)) := ((Kept.refl S0 w).alloc _).alloc _
  have hB := (Blk.new w 41 #[.int .u8 el, .int .u32 mn, .int .u32 mx, .bool bd]).alloc (.cells #[.int .u8 t, .int .u64 lo, .int .u64 hi] 43)
  have hC := Blk.new1 w (.cells #[.int .u8 el, .int .u32 mn, .int .u32 mx, .bool bd] 41) 43 #[.int .u8 t, .int .u64 lo, .int .u64 hi]
  cases hm : mayTabB el mn mx bd with
  | false =>
    have HM := Lib.hid hm
    clear hm hf
    go_enter Try.func14, Try.ntmps14
    go_wp2_with fail
    refine (maytab_any _ _ _ _ _ h1 h2 h3 h4).mono ?_
    rintro e w1 ⟨rfl, hk⟩
    rw [HM.out]
    go_wp2_with fail
    go_ret2
    exact ⟨rfl, hk0.then0 hk⟩
  | true =>
    have hel := Lib.hid (isRef_of hm)
    have HF := Lib.hid (hf.resolve_left (by rw [hm]; simp))
    have HM := Lib.hid hm
    clear hm hf
    go_enter Try.func14, Try.ntmps14
    go_wp2_with fail
    refine (maytab_any _ _ _ _ _ h1 h2 h3 h4).mono ?_
    rintro e w1 ⟨rfl, hk⟩
    rw [HM.out]
    have hB1 := hk.blk hB (fun x => x)
    have hC1 := hk.blk hC (fun x => x)
    have d0 : w1.cell? ⟨w.heap.size, 0, none⟩ = some (.int .u8 el) := hB1.cell 0
    have e0 : w1.cell? ⟨w.heap.size + 1, 0, none⟩ = some (.int .u8 t) := hC1.cell 0
    have e1 : w1.cell? ⟨w.heap.size + 1, 1, none⟩ = some (.int .u64 lo) := hC1.cell 1
    have e2 : w1.cell? ⟨w.heap.size + 1, 2, none⟩ = some (.int .u64 hi) := hC1.cell 2
    have hk1 := hk0.then0 hk
    clear hB hC hB1 hC1 hk hk0
    go_wp2_with fail
    refine (fits_ref _ _ _ _ _ hel.out).mono ?_
    rintro e w2 ⟨rfl, hk2⟩
    rw [HF.out]
    go_wp2_with fail
    go_ret2
    exact ⟨rfl, hk1.then0 hk2⟩

set_option maxHeartbeats 1600000 in
theorem newtab_limit (h1 : 16384 < mn) (h2 : mn ≤ 4294967295) (h3 : 0 ≤ mx) (h4 : mx ≤ 4294967295) (hm : mayTabB el mn mx bd = true) (hf : fitB t lo hi el = true) :
    Calls Try.prog 14 #[.agg #[.int .u8 el, .int .u32 mn, .int .u32 mx, .bool bd], .agg #[.int .u8 t, .int .u64 lo, .int .u64 hi]] w fun e w' => e = .returned (.tuple #[.pointer none, .int .i64 3]) ∧ Kept S0 w w' := by
  have hk0 : Kept S0 w ((w.alloc (.cells #[.int .u8 el, .int .u32 mn, .int .u32 mx, .bool bd] 41)).alloc (.cells #[.int .u8 t, .int .u64 lo, .int .u64 hi] 43)) := ((Kept.refl S0 w).alloc _).alloc _
  have hB := (Blk.new w 41 #[.int .u8 el, .int .u32 mn, .int .u32 mx, .bool bd]).alloc (.cells #[.int .u8 t, .int .u64 lo, .int .u64 hi] 43)
  have hC := Blk.new1 w (.cells #[.int .u8 el, .int .u32 mn, .int .u32 mx, .bool bd] 41) 43 #[.int .u8 t, .int .u64 lo, .int .u64 hi]
  have hel := Lib.hid (isRef_of hm)
  have HF := Lib.hid hf
  have HM := Lib.hid hm
  clear hm hf
  go_enter Try.func14, Try.ntmps14
  go_wp2_with fail
  refine (maytab_any _ _ _ _ _ (by omega) h2 h3 h4).mono ?_
  rintro e w1 ⟨rfl, hk⟩
  rw [HM.out]
  have hB1 := hk.blk hB (fun x => x)
  have hC1 := hk.blk hC (fun x => x)
  have d0 : w1.cell? ⟨w.heap.size, 0, none⟩ = some (.int .u8 el) := hB1.cell 0
  have e0 : w1.cell? ⟨w.heap.size + 1, 0, none⟩ = some (.int .u8 t) := hC1.cell 0
  have e1 : w1.cell? ⟨w.heap.size + 1, 1, none⟩ = some (.int .u64 lo) := hC1.cell 1
  have e2 : w1.cell? ⟨w.heap.size + 1, 2, none⟩ = some (.int .u64 hi) := hC1.cell 2
  have hk1 := hk0.then0 hk
  clear hB hC hC1 hk hk0
  go_wp2_with fail
  refine (fits_ref _ _ _ _ _ hel.out).mono ?_
  rintro e w2 ⟨rfl, hk2⟩
  rw [HF.out]
  have hB2 := hk2.blk hB1 (fun x => x)
  have f1 : w2.cell? ⟨w.heap.size, 1, none⟩ = some (.int .u32 mn) := hB2.cell 1
  go_wp2_with fail
  go_ret2
  exact ⟨rfl, hk1.then0 hk2⟩
end

set_option maxHeartbeats 1600000 in
theorem newtab_made (el mx : Int) (mn : Nat) (bd : Bool) (x : V3) (w : World) (h1 : mn ≤ 16384) (h3 : 0 ≤ mx) (h4 : mx ≤ 4294967295) (hm : mayTabB el mn mx bd = true) (hf : fitB x.t x.lo x.hi el = true) :
    Calls Try.prog 14 #[.agg #[.int .u8 el, .int .u32 (mn : Int), .int .u32 mx, .bool bd], .agg #[.int .u8 x.t, .int .u64 x.lo, .int .u64 x.hi]] w fun e w' => ∃ tb lv, e = .returned (.tuple #[.pointer (some ⟨tb, 0, none⟩), .int .i64 0]) ∧ TabAt w' tb w.heap.size mn el mn mx bd lv (fun _ => x) ∧ Kept S0 w w' := by
  have hk0 : Kept S0 w ((w.alloc (.cells #[.int .u8 el, .int .u32 mn, .int .u32 mx, .bool bd] 41)).alloc (.cells #[.int .u8 x.t, .int .u64 x.lo, .int .u64 x.hi] 43)) := ((Kept.refl S0 w).alloc _).alloc _
  have hB := (Blk.new w 41 #[.int .u8 el, .int .u32 mn, .int .u32 mx, .bool bd]).alloc (.cells #[.int .u8 x.t, .int .u64 x.lo, .int .u64 x.hi] 43)
  have hC := Blk.new1 w (.cells #[.int .u8 el, .int .u32 mn, .int .u32 mx, .bool bd] 41) 43 #[.int .u8 x.t, .int .u64 x.lo, .int .u64 x.hi]
  have hel := Lib.hid (isRef_of hm)
  have HF := Lib.hid hf
  have HM := Lib.hid hm
  have u1 : IntKind.i64.wrap (mn : Int) = (mn : Int) := IntWalk.i64_in _ (by omega)
  clear hm hf
  go_enter Try.func14, Try.ntmps14
  go_wp2_with fail
  refine (maytab_any _ _ _ _ _ (by omega) (by omega) h3 h4).mono ?_
  rintro e w1 ⟨rfl, hk⟩
  rw [HM.out]
  have hB1 := hk.blk hB (fun x => x)
  have hC1 := hk.blk hC (fun x => x)
  have d0 : w1.cell? ⟨w.heap.size, 0, none⟩ = some (.int .u8 el) := hB1.cell 0
  have e0 : w1.cell? ⟨w.heap.size + 1, 0, none⟩ = some (.int .u8 x.t) := hC1.cell 0
  have e1 : w1.cell? ⟨w.heap.size + 1, 1, none⟩ = some (.int .u64 x.lo) := hC1.cell 1
  have e2 : w1.cell? ⟨w.heap.size + 1, 2, none⟩ = some (.int .u64 x.hi) := hC1.cell 2
  have hk1 := hk0.then0 hk
  clear hB hC hk hk0
  go_wp2_with fail
  refine (fits_ref _ _ _ _ _ hel.out).mono ?_
  rintro e w2 ⟨rfl, hk2⟩
  rw [HF.out]
  have hB2 := hk2.blk hB1 (fun x => x)
  have hC2 := hk2.blk hC1 (fun x => x)
  have f0 : w2.cell? ⟨w.heap.size, 0, none⟩ = some (.int .u8 el) := hB2.cell 0
  have f1 : w2.cell? ⟨w.heap.size, 1, none⟩ = some (.int .u32 mn) := hB2.cell 1
  have f2 : w2.cell? ⟨w.heap.size, 2, none⟩ = some (.int .u32 mx) := hB2.cell 2
  have f3 : w2.cell? ⟨w.heap.size, 3, none⟩ = some (.bool bd) := hB2.cell 3
  have g0 : w2.cell? ⟨w.heap.size + 1, 0, none⟩ = some (.int .u8 x.t) := hC2.cell 0
  have g1 : w2.cell? ⟨w.heap.size + 1, 1, none⟩ = some (.int .u64 x.lo) := hC2.cell 1
  have g2 : w2.cell? ⟨w.heap.size + 1, 2, none⟩ = some (.int .u64 x.hi) := hC2.cell 2
  have hk3 := hk1.then0 hk2
  have hl1 := hB2.lt
  have hl2 := hC2.lt
  clear d0 e0 e1 e2 hB1 hC1 hk1 hk2 hB2 hC2
  have hT : TabAt (w2.alloc (.cells #[.bool true, .int .u8 el, .int .u32 (mn : Int), .int .u32 mx, .bool bd, .slice none 0 0] 67)) w2.heap.size w.heap.size 0 el mn mx bd (.slice none 0 0) (fun _ => x) :=
    ⟨Blk.new w2 _ _, Own.nil _ _ _ _ _ _, hk3.size⟩
  have hk4 : Kept S0 w (w2.alloc (.cells #[.bool true, .int .u8 el, .int .u32 (mn : Int), .int .u32 mx, .bool bd, .slice none 0 0] 67)) := hk3.alloc _
  go_wp2_with fail
  refine (more_any _ _ 0 mn _ _ _ _ _ _ x _ hT (by omega) hk4.size).mono ?_
  rintro e w3 ⟨rfl, lj, hT2, hk5, hblk⟩
  have hk6 : Kept S0 w w3 := hk4.trans_ hk5 (fun i hi => .inr (by
    rcases hi with hi | hi
    · rw [hi]; exact hk3.size
    · simp [Value.ownBlock] at hi))
  clear hT hk4 hk5 hk3
  go_wp2_with fail
  go_ret2
  rw [Nat.zero_add] at hT2
  exact ⟨_, lj, rfl, hT2.congr (fun i _ => by unfold afterV; split <;> rfl), hk6⟩
end Go.Proofs.Ytpeekldngelkkaa
