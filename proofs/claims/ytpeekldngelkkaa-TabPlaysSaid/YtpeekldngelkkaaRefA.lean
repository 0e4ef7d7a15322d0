/- Contracts of the document's tables' smallest functions. No condition. -/
import Derived.Test.YtpeekldngelkkaaTabC
namespace Go.Proofs.Ytpeekldngelkkaa
open Go.RowKit

set_option maxHeartbeats 800000 in
theorem rmay_any (mn mx top : Int) (bd : Bool) (w : World) (h1 : 0 ≤ mn) (h2 : mn ≤ 4294967295) (h3 : 0 ≤ mx) (h4 : mx ≤ 4294967295) (_h5 : 0 ≤ top) (_h6 : top ≤ 18446744073709551615) :
    Calls Try.prog 47 #[.agg #[.int .u32 mn, .int .u32 mx, .bool bd], .int .u64 top] w fun e w' => e = .returned (.bool (mayB mn mx bd top)) ∧ Kept S0 w w' := by
  have u1 : IntKind.u64.wrap mn = mn := IntWalk.u64_in _ (by omega)
  have u2 : IntKind.u64.wrap mx = mx := IntWalk.u64_in _ (by omega)
  cases bd with
  | true =>
    by_cases c1 : mn ≤ mx
    · have hb := Lib.hid (show mayB mn mx true top = decide (mx ≤ top) by
        unfold mayB
        by_cases c2 : mx ≤ top
        · rw [decide_eq_true c2]; simp; omega
        · rw [decide_eq_false c2]; simp; omega)
      go_enter Try.func47, Try.ntmps47
      go_wp2
      go_ret
      exact ⟨ret_bool (by rw [hb.out]), (Kept.refl _ _).alloc _⟩
    · have hb := Lib.hid (show mayB mn mx true top = false by simp [mayB]; omega)
      have c1' : decide (mn ≤ mx) = false := decide_eq_false c1
      clear c1
      go_enter Try.func47, Try.ntmps47
      go_wp2
      go_ret
      exact ⟨ret_bool (by rw [hb.out]), (Kept.refl _ _).alloc _⟩
  | false =>
    by_cases c1 : mn ≤ top
    · have hb := Lib.hid (show mayB mn mx false top = (mx == 0) by simp [mayB, c1])
      go_enter Try.func47, Try.ntmps47
      go_wp2
      go_ret
      exact ⟨ret_bool (by rw [hb.out]), (Kept.refl _ _).alloc _⟩
    · have hb := Lib.hid (show mayB mn mx false top = false by simp [mayB, c1])
      have c1' : decide (mn ≤ top) = false := decide_eq_false c1
      clear c1
      go_enter Try.func47, Try.ntmps47
      go_wp2
      go_ret
      exact ⟨ret_bool (by rw [hb.out]), (Kept.refl _ _).alloc _⟩

set_option maxHeartbeats 400000 in
theorem risref_any (el : Int) (w : World) : Calls Try.prog 46 #[.int .u8 el] w fun e w' => e = .returned (.bool (isRefB el)) ∧ w = w' := by
  by_cases h1 : el = 112
  · subst h1
    go_enter Try.func46, Try.ntmps46
    go_wp2
    go_ret
    exact ⟨rfl, rfl⟩
  · have h2 : (el == 112) = false := beq_eq_false_iff_ne.2 h1
    have HB := Lib.hid (show isRefB el = (el == 111) by simp [isRefB, h1])
    clear h1
    go_enter Try.func46, Try.ntmps46
    go_wp2
    go_ret
    exact ⟨ret_bool (by rw [HB.out]), rfl⟩

set_option maxHeartbeats 800000 in
theorem rmaytab_any (el mn mx : Int) (bd : Bool) (w : World) (h1 : 0 ≤ mn) (h2 : mn ≤ 4294967295) (h3 : 0 ≤ mx) (h4 : mx ≤ 4294967295) :
    Calls Try.prog 35 #[.agg #[.int .u8 el, .int .u32 mn, .int .u32 mx, .bool bd]] w fun e w' => e = .returned (.bool (mayTabB el mn mx bd)) ∧ Kept S0 w w' := by
  have hB := Blk.new w 41 #[.int .u8 el, .int .u32 mn, .int .u32 mx, .bool bd]
  have d0 : (w.alloc (.cells #[.int .u8 el, .int .u32 mn, .int .u32 mx, .bool bd] 41)).cell? ⟨w.heap.size, 0, none⟩ = some (.int .u8 el) := hB.cell 0
  have d1 : (w.alloc (.cells #[.int .u8 el, .int .u32 mn, .int .u32 mx, .bool bd] 41)).cell? ⟨w.heap.size, 1, none⟩ = some (.int .u32 mn) := hB.cell 1
  have d2 : (w.alloc (.cells #[.int .u8 el, .int .u32 mn, .int .u32 mx, .bool bd] 41)).cell? ⟨w.heap.size, 2, none⟩ = some (.int .u32 mx) := hB.cell 2
  have d3 : (w.alloc (.cells #[.int .u8 el, .int .u32 mn, .int .u32 mx, .bool bd] 41)).cell? ⟨w.heap.size, 3, none⟩ = some (.bool bd) := hB.cell 3
  cases hr : isRefB el with
  | true =>
    have HB := Lib.hid (show mayTabB el mn mx bd = mayB mn mx bd 4294967295 by simp [mayTabB, hr])
    have HR := Lib.hid hr
    clear hr
    go_enter Try.func35, Try.ntmps35
    go_wp2_with fail
    refine (risref_any _ _).mono ?_
    rintro e w1 ⟨rfl, rfl⟩
    rw [HR.out]
    go_wp2_with fail
    refine (rmay_any _ _ _ _ _ h1 h2 h3 h4 (by omega) (by omega)).mono ?_
    rintro e w1 ⟨rfl, hk⟩
    go_wp2_with fail
    go_ret
    exact ⟨ret_bool (by rw [HB.out]), ((Kept.refl S0 w).alloc _).then0 hk⟩
  | false =>
    have HB := Lib.hid (show mayTabB el mn mx bd = false by simp [mayTabB, hr])
    have HR := Lib.hid hr
    clear hr
    go_enter Try.func35, Try.ntmps35
    go_wp2_with fail
    refine (risref_any _ _).mono ?_
    rintro e w1 ⟨rfl, rfl⟩
    rw [HR.out]
    go_wp2_with fail
    go_ret
    exact ⟨ret_bool (by rw [HB.out]), (by repeat (first | exact Kept.refl _ _ | assumption | refine Kept.drew ?_ | refine Kept.alloc ?_ _ | refine Kept.setCell ?_ (.inr (by first | exact Nat.le_refl _ | (simp; done) | omega | (simp; omega))) _))⟩

set_option maxHeartbeats 800000 in
theorem rhas_ref (t lo hi : Int) (w : World) (ht : t = 112 ∨ t = 111) : Calls Try.prog 48 #[.agg #[.int .u8 t, .int .u64 lo, .int .u64 hi]] w fun e w' => e = .returned (.bool (refB lo hi)) ∧ Kept S0 w w' := by
  by_cases hh : lo ≤ 4294967296
  · have HB := Lib.hid (show refB lo hi = (hi == 0) by simp [refB, hh])
    rcases ht with rfl | rfl
    all_goals
      go_enter Try.func48, Try.ntmps48
      go_wp2
      go_ret
      exact ⟨ret_bool (by rw [HB.out]), (by repeat (first | exact Kept.refl _ _ | assumption | refine Kept.drew ?_ | refine Kept.alloc ?_ _ | refine Kept.setCell ?_ (.inr (by first | exact Nat.le_refl _ | (simp; done) | omega | (simp; omega))) _))⟩
  · have h0 : decide (lo ≤ 4294967296) = false := decide_eq_false hh
    have HB := Lib.hid (show refB lo hi = false by simp [refB, hh])
    clear hh
    rcases ht with rfl | rfl
    all_goals
      go_enter Try.func48, Try.ntmps48
      go_wp2
      go_ret
      exact ⟨ret_bool (by rw [HB.out]), (by repeat (first | exact Kept.refl _ _ | assumption | refine Kept.drew ?_ | refine Kept.alloc ?_ _ | refine Kept.setCell ?_ (.inr (by first | exact Nat.le_refl _ | (simp; done) | omega | (simp; omega))) _))⟩

set_option maxHeartbeats 800000 in
theorem ris_ref (t lo hi el : Int) (w : World) (he : el = 112 ∨ el = 111) : Calls Try.prog 36 #[.agg #[.int .u8 t, .int .u64 lo, .int .u64 hi], .int .u8 el] w fun e w' => e = .returned (.bool (fitB t lo hi el)) ∧ Kept S0 w w' := by
  by_cases ht : t = el
  · subst ht
    have h1 : (t == t) = true := beq_self_eq_true t
    have HB := Lib.hid (show fitB t lo hi t = refB lo hi by simp [fitB])
    have HE := Lib.hid he
    clear he
    go_enter Try.func36, Try.ntmps36
    go_wp2_with fail
    refine (rhas_ref t lo hi _ HE.out).mono ?_
    rintro e w1 ⟨rfl, hk⟩
    go_wp2_with fail
    go_ret
    exact ⟨ret_bool (by rw [HB.out]), ((Kept.refl S0 w).alloc _).then0 hk⟩
  · have h1 : (t == el) = false := beq_eq_false_iff_ne.2 ht
    have HB := Lib.hid (show fitB t lo hi el = false by simp [fitB, ht])
    clear he ht
    go_enter Try.func36, Try.ntmps36
    go_wp2_with fail
    go_ret
    exact ⟨ret_bool (by rw [HB.out]), (by repeat (first | exact Kept.refl _ _ | assumption | refine Kept.drew ?_ | refine Kept.alloc ?_ _ | refine Kept.setCell ?_ (.inr (by first | exact Nat.le_refl _ | (simp; done) | omega | (simp; omega))) _))⟩

set_option maxHeartbeats 400000 in
theorem rwithin_any (at_ n all : Int) (w : World) (h1 : 0 ≤ at_) (h2 : 0 ≤ n) (h3 : 0 ≤ all) (h4 : all ≤ 9223372036854775807) (h5 : at_ ≤ 4294967295) (h6 : n ≤ 4294967295) :
    Calls Try.prog 49 #[.int .u32 at_, .int .u32 n, .int .i64 all] w fun e w' => e = .returned (.bool (inB at_ n all)) ∧ w = w' := by
  have hw : IntKind.u64.wrap all = all := IntWalk.u64_in _ (by omega)
  have hw1 : IntKind.u64.wrap at_ = at_ := IntWalk.u64_in _ (by omega)
  have hw2 : IntKind.u64.wrap n = n := IntWalk.u64_in _ (by omega)
  have hw3 : IntKind.u64.wrap (at_ + n) = at_ + n := IntWalk.u64_in _ (by omega)
  have HB := Lib.hid (show inB at_ n all = decide (at_ + n ≤ all) from rfl)
  go_enter Try.func49, Try.ntmps49
  go_wp2
  go_ret
  exact ⟨ret_bool (by rw [HB.out]), rfl⟩
end Go.Proofs.Ytpeekldngelkkaa
