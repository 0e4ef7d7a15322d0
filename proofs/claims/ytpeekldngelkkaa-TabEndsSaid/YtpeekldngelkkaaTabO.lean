/- Contracts of a table's Init from no list. No condition. -/
import Derived.Test.YtpeekldngelkkaaTabI
namespace Go.Proofs.Ytpeekldngelkkaa
open Go.RowKit

theorem index_nil (fv : Value) (w : World) : Calls Try.prog 45 #[.slice none 0 0, fv] w fun e w' => e = .returned (.int .i64 (-1)) ∧ w = w' := by
  go_enter Try.func45, Try.ntmps45
  go_wp2_with fail
  go_loopw [8] (fun i wr => i = .int .i64 0 ∧ wr = w) (fun _ _ => 0)
  case atStart => exact ⟨rfl, rfl⟩
  case round =>
    obtain ⟨rfl, rfl⟩ := hrel
    go_wp2_with fail
    go_ret
    exact ⟨rfl, rfl⟩

theorem contains_nil (fv : Value) (w : World) : Calls Try.prog 33 #[.slice none 0 0, fv] w fun e w' => e = .returned (.bool false) ∧ w = w' := by
  go_enter Try.func33, Try.ntmps33
  go_wp2_with fail
  refine (index_nil fv _).mono ?_
  rintro e w1 ⟨rfl, rfl⟩
  go_wp2_with fail
  go_ret
  exact ⟨rfl, rfl⟩

section
variable {w : World} {tb base N : Nat} {el mn mx : Int} {bd : Bool} {lv : Value} {f : Nat → V3}

set_option maxHeartbeats 1600000 in
theorem initnil_trap (x y n : Int) (hm : TabAt w tb base N el mn mx bd lv f) (hN : N ≤ 16384) (h1 : 0 ≤ x) (h2 : 0 ≤ y) (h3 : 0 ≤ n) (h4 : x ≤ 4294967295) (h5 : y ≤ 4294967295) (h6 : n ≤ 4294967295) (ho : inB x n N = false ∨ inB y n 0 = false) :
    Calls Try.prog 20 #[.pointer (some ⟨tb, 0, none⟩), .int .u32 x, .slice none 0 0, .int .u32 y, .int .u32 n] w fun e w' => e = .returned (.int .i64 6) ∧ Kept S0 w w' := by
  have hka : Kept S0 w (w.alloc (.cells #[.pointer (some ⟨tb, 0, none⟩)] 22)) := (Kept.refl S0 w).alloc _
  have hm1 := hm.kept0 hka
  have c0 := hm1.c0
  have c5 := hm1.c5
  obtain ⟨A, c, hlv, _, _, _⟩ := hm1.own.out
  rw [hlv] at c5
  have hB := Blk.new w 22 #[.pointer (some ⟨tb, 0, none⟩)]
  have r0 : (w.alloc (.cells #[.pointer (some ⟨tb, 0, none⟩)] 22)).cell? ⟨w.heap.size, 0, none⟩ = some (.pointer (some ⟨tb, 0, none⟩)) := hB.cell 0
  clear hB
  clear hm hm1
  by_cases hx : inB x n N = false
  · have HX := Lib.hid hx
    clear hx ho
    go_enter Try.func20, Try.ntmps20
    go_wp2_with fail
    refine (off_made _ _ c0).mono ?_
    rintro e w1 ⟨rfl, rfl⟩
    go_wp2_with fail
    refine (contains_nil _ _).mono ?_
    rintro e w1 ⟨rfl, rfl⟩
    go_wp2_with fail
    refine (within_any _ _ _ _ h1 h3 (by omega) (by omega) h4 h6).mono ?_
    rintro e w1 ⟨rfl, rfl⟩
    rw [HX.out]
    go_wp2_with fail
    go_ret
    exact ⟨rfl, hka⟩
  · have HX := Lib.hid (show inB x n N = true by simpa using hx)
    have HY := Lib.hid (ho.resolve_left hx)
    clear hx ho
    go_enter Try.func20, Try.ntmps20
    go_wp2_with fail
    refine (off_made _ _ c0).mono ?_
    rintro e w1 ⟨rfl, rfl⟩
    go_wp2_with fail
    refine (contains_nil _ _).mono ?_
    rintro e w1 ⟨rfl, rfl⟩
    go_wp2_with fail
    refine (within_any _ _ _ _ h1 h3 (by omega) (by omega) h4 h6).mono ?_
    rintro e w1 ⟨rfl, rfl⟩
    rw [HX.out]
    go_wp2_with fail
    refine (within_any _ _ _ _ h2 h3 (by omega) (by omega) h5 h6).mono ?_
    rintro e w1 ⟨rfl, rfl⟩
    rw [HY.out]
    go_wp2_with fail
    go_ret
    exact ⟨rfl, hka⟩

set_option maxHeartbeats 1600000 in
theorem initnil_in (x : Nat) (hm : TabAt w tb base N el mn mx bd lv f) (hN : N ≤ 16384) (hx : x ≤ N) :
    Calls Try.prog 20 #[.pointer (some ⟨tb, 0, none⟩), .int .u32 (x : Int), .slice none 0 0, .int .u32 0, .int .u32 0] w fun e w' => e = .returned (.int .i64 0) ∧ Kept S0 w w' := by
  have hka : Kept S0 w (w.alloc (.cells #[.pointer (some ⟨tb, 0, none⟩)] 22)) := (Kept.refl S0 w).alloc _
  have hm1 := hm.kept0 hka
  have c0 := hm1.c0
  have c5 := hm1.c5
  obtain ⟨A, c, hlv, hAc, _, _⟩ := hm1.own.out
  rw [hlv] at c5
  have hB := Blk.new w 22 #[.pointer (some ⟨tb, 0, none⟩)]
  have r0 : (w.alloc (.cells #[.pointer (some ⟨tb, 0, none⟩)] 22)).cell? ⟨w.heap.size, 0, none⟩ = some (.pointer (some ⟨tb, 0, none⟩)) := hB.cell 0
  clear hB
  have u1 : IntKind.i64.wrap (x : Int) = (x : Int) := IntWalk.i64_in _ (by omega)
  have u4 : IntKind.i64.wrap (0 : Int) = 0 := IntWalk.i64_in _ (by omega)
  have u5 : IntKind.i64.wrap ((x : Int) + 0) = (x : Int) := IntWalk.i64_in _ (by omega)
  obtain ⟨D1, r1, _⟩ := run_cutS (P := Try.prog) 24 43 3 Try.underlying24 Try.sizeV A N c .u32 .i64 (x : Int) (x : Int) x 0 rfl (by omega) (by omega)
  obtain ⟨D2, r2, _⟩ := run_cutS (P := Try.prog) 24 43 3 Try.underlying24 Try.sizeV none 0 0 .u32 .i64 (0 : Int) (0 : Int) 0 0 rfl rfl (by omega)
  have HX := Lib.hid (show inB (x : Int) 0 N = true from decide_eq_true (by omega))
  have HY := Lib.hid (show inB 0 0 0 = true from rfl)
  clear hm hm1
  go_enter Try.func20, Try.ntmps20
  go_wp2_with fail
  refine (off_made _ _ c0).mono ?_
  rintro e w1 ⟨rfl, rfl⟩
  go_wp2_with fail
  refine (contains_nil _ _).mono ?_
  rintro e w1 ⟨rfl, rfl⟩
  go_wp2_with fail
  refine (within_any _ _ _ _ (by omega) (by omega) (by omega) (by omega) (by omega) (by omega)).mono ?_
  rintro e w1 ⟨rfl, rfl⟩
  rw [HX.out]
  go_wp2_with fail
  refine (within_any _ _ _ _ (by omega) (by omega) (by omega) (by omega) (by omega) (by omega)).mono ?_
  rintro e w1 ⟨rfl, rfl⟩
  rw [HY.out]
  go_wp2_with fail
  generalize hw1 : w.alloc (.cells #[.pointer (some ⟨tb, 0, none⟩)] 22) = w1 at *
  have HW := Lib.hid hw1
  clear hw1
  go_still_tail 19, (by kernel_rfl)
  change wpList _ _ _ _ _ w1.drew
  refine wpList_copy_zero rfl (.tmp 46) (.tmp 54) 24 24 rfl 43 3 Try.underlying24 Try.sizeV _ _ _ _ _ _ rfl rfl (by first | exact Nat.min_self _ | simp) ?_
  go_wp2
  all_goals
    go_ret
    exact ⟨rfl, hka.drew⟩
end
end Go.Proofs.Ytpeekldngelkkaa
