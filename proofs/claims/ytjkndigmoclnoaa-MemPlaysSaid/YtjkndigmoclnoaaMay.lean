/- The contract of types.May. No condition. -/
import Derived.Test.YtjkndigmoclnoaaProg
import Derived.Test.YtjkndigmoclnoaaBase
namespace Go.Proofs.Ytjkndigmoclnoaa
open Go.RowKit

/-- May limits be so? -/
def mayB (mn mx : Int) (bd : Bool) (top : Int) : Bool := if bd then !decide (mx < mn) && !decide (top < mx) && decide (mn ≤ top) else (mx == 0) && decide (mn ≤ top)

set_option maxHeartbeats 800000 in
theorem may_any (mn mx top : Int) (bd : Bool) (w : World) (h1 : 0 ≤ mn) (h2 : mn ≤ 4294967295) (h3 : 0 ≤ mx) (h4 : mx ≤ 4294967295) (_h5 : 0 ≤ top) (_h6 : top ≤ 18446744073709551615) :
    Calls Try.prog 28 #[.agg #[.int .u32 mn, .int .u32 mx, .bool bd], .int .u64 top] w fun e w' => e = .returned (.bool (mayB mn mx bd top)) ∧ Kept S0 w w' := by
  have u1 : IntKind.u64.wrap mn = mn := IntWalk.u64_in _ (by omega)
  have u2 : IntKind.u64.wrap mx = mx := IntWalk.u64_in _ (by omega)
  cases bd with
  | true =>
    by_cases c1 : mx < mn
    · have hb := Lib.hid (show mayB mn mx true top = false by simp [mayB]; omega)
      go_enter Try.func28, Try.ntmps28
      go_wp2
      go_ret
      exact ⟨ret_bool (by rw [hb.out]), (Kept.refl _ _).alloc _⟩
    · have c1' : decide (mx < mn) = false := decide_eq_false c1
      by_cases c2 : top < mx
      · have c2' : decide (top < mx) = true := decide_eq_true c2
        have hb := Lib.hid (show mayB mn mx true top = false by simp [mayB]; omega)
        clear c1 c2
        go_enter Try.func28, Try.ntmps28
        go_wp2
        go_ret
        exact ⟨ret_bool (by rw [hb.out]), (Kept.refl _ _).alloc _⟩
      · have c2' : decide (top < mx) = false := decide_eq_false c2
        have hb := Lib.hid (show mayB mn mx true top = decide (mn ≤ top) by unfold mayB; rw [c1', c2']; simp)
        clear c1 c2
        go_enter Try.func28, Try.ntmps28
        go_wp2
        go_ret
        exact ⟨ret_bool (by rw [hb.out]), (Kept.refl _ _).alloc _⟩
  | false =>
    by_cases c1 : mx = 0
    · subst c1
      have hb := Lib.hid (show mayB mn 0 false top = decide (mn ≤ top) by simp [mayB])
      go_enter Try.func28, Try.ntmps28
      go_wp2
      go_ret
      exact ⟨ret_bool (by rw [hb.out]), (Kept.refl _ _).alloc _⟩
    · have c2 : (mx != 0) = true := bne_iff_ne.2 c1
      have hb := Lib.hid (show mayB mn mx false top = false by simp [mayB, c1])
      clear c1
      go_enter Try.func28, Try.ntmps28
      go_wp2
      go_ret
      exact ⟨ret_bool (by rw [hb.out]), (Kept.refl _ _).alloc _⟩

end Go.Proofs.Ytjkndigmoclnoaa
