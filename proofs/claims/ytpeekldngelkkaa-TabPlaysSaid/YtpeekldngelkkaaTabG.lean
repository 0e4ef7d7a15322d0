/- Contracts of a table's Grow. No condition. -/
import Derived.Test.YtpeekldngelkkaaTabB
namespace Go.Proofs.Ytpeekldngelkkaa
open Go.RowKit

/-- May it grow? -/
def growB (N k : Nat) (mx : Int) (bd : Bool) : Bool := decide (N + k ≤ 16384) && (!bd || decide (((N + k : Nat) : Int) ≤ mx))

section
variable {w : World} {tb base N : Nat} {el mn mx : Int} {bd : Bool} {lv : Value} {f : Nat → V3}

set_option maxHeartbeats 1600000 in
theorem grow_no (k : Nat) (x : V3) (hm : TabAt w tb base N el mn mx bd lv f) (hN : N ≤ 16384) (hk : k ≤ 4294967295) (h3 : 0 ≤ mx) (h4 : mx ≤ 4294967295) (hel : el = 112 ∨ el = 111) (hf : fitB x.t x.lo x.hi el = true) (hg : growB N k mx bd = false) :
    Calls Try.prog 15 #[.pointer (some ⟨tb, 0, none⟩), .int .u32 (k : Int), .agg #[.int .u8 x.t, .int .u64 x.lo, .int .u64 x.hi]] w fun e w' => e = .returned (.tuple #[.int .u32 4294967295, .int .i64 0]) ∧ Kept S0 w w' := by
  have hka : Kept S0 w (w.alloc (.cells #[.int .u8 x.t, .int .u64 x.lo, .int .u64 x.hi] 43)) := (Kept.refl S0 w).alloc _
  have hm1 := hm.kept0 hka
  have c0 := hm1.c0
  have c1 := hm1.c1
  have hB := Blk.new w 43 #[.int .u8 x.t, .int .u64 x.lo, .int .u64 x.hi]
  have e0 : (w.alloc (.cells #[.int .u8 x.t, .int .u64 x.lo, .int .u64 x.hi] 43)).cell? ⟨w.heap.size, 0, none⟩ = some (.int .u8 x.t) := hB.cell 0
  have e1 : (w.alloc (.cells #[.int .u8 x.t, .int .u64 x.lo, .int .u64 x.hi] 43)).cell? ⟨w.heap.size, 1, none⟩ = some (.int .u64 x.lo) := hB.cell 1
  have e2 : (w.alloc (.cells #[.int .u8 x.t, .int .u64 x.lo, .int .u64 x.hi] 43)).cell? ⟨w.heap.size, 2, none⟩ = some (.int .u64 x.hi) := hB.cell 2
  have HF := Lib.hid hf
  have HE := Lib.hid hel
  have HM := Lib.hid hm1
  have u1 : IntKind.u64.wrap (k : Int) = (k : Int) := IntWalk.u64_in _ (by omega)
  have u2 : IntKind.u64.wrap (N : Int) = (N : Int) := IntWalk.u64_in _ (by omega)
  have u3 : IntKind.u64.wrap ((N : Int) + (k : Int)) = (N : Int) + (k : Int) := IntWalk.u64_in _ (by omega)
  have u4 : IntKind.u64.wrap mx = mx := IntWalk.u64_in _ (by omega)
  have hg2 : decide ((16384 : Int) < (N : Int) + (k : Int)) = true ∨ (decide ((16384 : Int) < (N : Int) + (k : Int)) = false ∧ bd = true ∧ decide (mx < (N : Int) + (k : Int)) = true) := by
    unfold growB at hg
    by_cases h : N + k ≤ 16384
    · refine .inr ⟨decide_eq_false (by omega), ?_⟩
      rw [decide_eq_true h] at hg
      simp at hg
      exact ⟨hg.1, decide_eq_true (by omega)⟩
    · exact .inl (decide_eq_true (by omega))
  have HG := Lib.hid hg2
  clear hm hm1 hB hf hel hg hg2
  go_enter Try.func15, Try.ntmps15
  go_wp2_with fail
  refine (off_made _ _ c0).mono ?_
  rintro e w1 ⟨rfl, rfl⟩
  go_wp2_with fail
  generalize hw1 : w.alloc (.cells #[.int .u8 x.t, .int .u64 x.lo, .int .u64 x.hi] 43) = w1 at *
  have HW := Lib.hid hw1
  clear hw1
  go_still_tail 6, (by kernel_rfl)
  change wpList _ _ _ _ _ (World.drew _)
  go_wp2_with fail
  refine (fits_ref x.t x.lo x.hi el _ HE.out).mono ?_
  rintro e w2 ⟨rfl, hk⟩
  rw [HF.out]
  have hk1 := hka.drew.then0 hk
  have hm2 := HM.out.drew.kept0 hk
  obtain ⟨A, c, rfl, _, _, _⟩ := hm2.own.out
  have d0 := hm2.c0
  have d3 := hm2.c3
  have d4 := hm2.c4
  have d5 := hm2.c5
  clear c0 c1 e0 e1 e2 hm2
  go_wp2_with fail
  refine (size_made tb _ A N c d0 d5 hN).mono ?_
  rintro e w3 ⟨rfl, rfl⟩
  rcases HG.out with g1 | ⟨g1, rfl, g2⟩
  all_goals
    go_wp2_with fail
    go_ret2
    exact ⟨rfl, hk1⟩

set_option maxHeartbeats 1600000 in
theorem grow_yes (k : Nat) (x : V3) (hm : TabAt w tb base N el mn mx bd lv f) (hN : N ≤ 16384) (hk : k ≤ 4294967295) (h3 : 0 ≤ mx) (h4 : mx ≤ 4294967295) (hel : el = 112 ∨ el = 111) (hf : fitB x.t x.lo x.hi el = true) (hg : growB N k mx bd = true) (hb : base ≤ w.heap.size) :
    Calls Try.prog 15 #[.pointer (some ⟨tb, 0, none⟩), .int .u32 (k : Int), .agg #[.int .u8 x.t, .int .u64 x.lo, .int .u64 x.hi]] w fun e w' => e = .returned (.tuple #[.int .u32 (N : Int), .int .i64 0]) ∧ ∃ lj, TabAt w' tb base (N + k) el mn mx bd lj (afterV N f (fun _ => x)) ∧ Kept (ST tb lv) w w' ∧ (lj.ownBlock = lv.ownBlock ∨ ∃ g, lj.ownBlock = some g ∧ w.heap.size ≤ g) := by
  have hka : Kept S0 w (w.alloc (.cells #[.int .u8 x.t, .int .u64 x.lo, .int .u64 x.hi] 43)) := (Kept.refl S0 w).alloc _
  have hm1 := hm.kept0 hka
  have c0 := hm1.c0
  have c1 := hm1.c1
  have hB := Blk.new w 43 #[.int .u8 x.t, .int .u64 x.lo, .int .u64 x.hi]
  have e0 : (w.alloc (.cells #[.int .u8 x.t, .int .u64 x.lo, .int .u64 x.hi] 43)).cell? ⟨w.heap.size, 0, none⟩ = some (.int .u8 x.t) := hB.cell 0
  have e1 : (w.alloc (.cells #[.int .u8 x.t, .int .u64 x.lo, .int .u64 x.hi] 43)).cell? ⟨w.heap.size, 1, none⟩ = some (.int .u64 x.lo) := hB.cell 1
  have e2 : (w.alloc (.cells #[.int .u8 x.t, .int .u64 x.lo, .int .u64 x.hi] 43)).cell? ⟨w.heap.size, 2, none⟩ = some (.int .u64 x.hi) := hB.cell 2
  have HF := Lib.hid hf
  have HE := Lib.hid hel
  have HM := Lib.hid hm1
  have HBX := Lib.hid hB
  have hsum : N + k ≤ 16384 := by
    by_cases h : N + k ≤ 16384
    · exact h
    · unfold growB at hg; rw [decide_eq_false h] at hg; simp at hg
  have u1 : IntKind.u64.wrap (k : Int) = (k : Int) := IntWalk.u64_in _ (by omega)
  have u2 : IntKind.u64.wrap (N : Int) = (N : Int) := IntWalk.u64_in _ (by omega)
  have u3 : IntKind.u64.wrap ((N : Int) + (k : Int)) = (N : Int) + (k : Int) := IntWalk.u64_in _ (by omega)
  have u4 : IntKind.u64.wrap mx = mx := IntWalk.u64_in _ (by omega)
  have u5 : IntKind.i64.wrap (k : Int) = (k : Int) := IntWalk.i64_in _ (by omega)
  have g1 : decide ((16384 : Int) < (N : Int) + (k : Int)) = false := decide_eq_false (by omega)
  have hg2 : bd = false ∨ (bd = true ∧ decide (mx < (N : Int) + (k : Int)) = false) := by
    cases bd with
    | false => exact .inl rfl
    | true =>
      refine .inr ⟨rfl, decide_eq_false ?_⟩
      unfold growB at hg
      simp at hg
      omega
  have HG := Lib.hid hg2
  clear hm hm1 hB hf hel hg hg2
  go_enter Try.func15, Try.ntmps15
  go_wp2_with fail
  refine (off_made _ _ c0).mono ?_
  rintro e w1 ⟨rfl, rfl⟩
  go_wp2_with fail
  generalize hw1 : w.alloc (.cells #[.int .u8 x.t, .int .u64 x.lo, .int .u64 x.hi] 43) = w1 at *
  have HW := Lib.hid hw1
  clear hw1
  go_still_tail 6, (by kernel_rfl)
  change wpList _ _ _ _ _ (World.drew _)
  go_wp2_with fail
  refine (fits_ref x.t x.lo x.hi el _ HE.out).mono ?_
  rintro e w2 ⟨rfl, hk⟩
  rw [HF.out]
  have hk1 := hka.drew.then0 hk
  have hm2 := HM.out.drew.kept0 hk
  have hb2 := hk.blk (((Kept.refl S0 w1).drew).blk HBX.out (fun x => x)) (fun x => x)
  have b0 := hb2.cell 0
  have b1 := hb2.cell 1
  have b2 := hb2.cell 2
  have HM2 := Lib.hid hm2
  obtain ⟨A, c, hlv, _, _, _⟩ := hm2.own.out
  have d0 := hm2.c0
  have d3 := hm2.c3
  have d4 := hm2.c4
  have d5 := hm2.c5
  rw [hlv] at d5
  clear c0 c1 e0 e1 e2 hm2 HM HBX hb2
  go_wp2_with fail
  refine (size_made tb _ A N c d0 d5 hN).mono ?_
  rintro e w3 ⟨rfl, rfl⟩
  have HMORE := Lib.hid (more_any tb base N k el mn mx bd lv f x _ HM2.out hsum (Nat.le_trans hb hk1.size))
  rcases HG.out with rfl | ⟨rfl, g2⟩
  all_goals
    go_wp2_with fail
    refine HMORE.out.mono ?_
    rintro e w4 ⟨rfl, lj, hm4, hk4, hbl⟩
    go_wp2_with fail
    go_ret2
    exact ⟨rfl, lj, hm4, (hk1.of0 _).trans hk4, hbl.imp id (fun ⟨g, q1, q2⟩ => ⟨g, q1, Nat.le_trans hk1.size q2⟩)⟩
end
end Go.Proofs.Ytpeekldngelkkaa
