/- Contracts of a memory's Read and Sum. No condition. -/
import Derived.Test.YtjkndigmoclnoaaMemC
namespace Go.Proofs.Ytjkndigmoclnoaa
open Go.RowKit

section
variable {w : World} {pb bb N : Nat} {mn mx : Int} {bd : Bool} {f : Nat → UInt8}

set_option maxHeartbeats 400000 in
theorem read_neg (at_ n : Int) (hm : MemAt w pb bb N mn mx bd f) (h1 : n < 0) :
    Calls Try.prog 14 #[.pointer (some ⟨pb, 0, none⟩), .int .u64 at_, .int .i64 n] w fun e w' => e = .returned (.tuple #[.slice none 0 0, .int .i64 2]) ∧ w = w' := by
  have c0 := hm.c0
  have c4 := hm.c4
  go_enter Try.func14, Try.ntmps14
  go_wp2_with (first | (go_at_call 29; refine (off_made _ _ (by assumption)).mono ?_; rintro e w' ⟨rfl, rfl⟩))
  go_ret2
  exact ⟨rfl, rfl⟩

set_option maxHeartbeats 400000 in
theorem read_out (at_ n : Int) (hm : MemAt w pb bb N mn mx bd f) (hN : N ≤ 1048576) (h1 : 0 ≤ at_) (h2 : 0 ≤ n) (h5 : at_ ≤ 18446744073709551615) (h6 : n ≤ 9223372036854775807) (ho : inB at_ n N = false) :
    Calls Try.prog 14 #[.pointer (some ⟨pb, 0, none⟩), .int .u64 at_, .int .i64 n] w fun e w' => e = .returned (.tuple #[.slice none 0 0, .int .i64 6]) ∧ w = w' := by
  have c0 := hm.c0
  have c4 := hm.c4
  have hu : IntKind.u64.wrap n = n := IntWalk.u64_in _ (by omega)
  have HO := Lib.hid ho; clear ho
  go_enter Try.func14, Try.ntmps14
  go_wp2_with (first | (go_at_call 29; refine (off_made _ _ (by assumption)).mono ?_; rintro e w' ⟨rfl, rfl⟩) | (go_at_call 30; refine (within_any _ _ _ _ (by omega) (by omega) (by omega) (by omega) (by omega) (by omega)).mono ?_; rintro e w' ⟨rfl, rfl⟩; rw [HO.out]))
  go_ret2
  exact ⟨rfl, rfl⟩

set_option maxHeartbeats 400000 in
theorem read_in (a n : Nat) (hm : MemAt w pb bb N mn mx bd f) (hN : N ≤ 1048576) (h : a + n ≤ N) :
    Calls Try.prog 14 #[.pointer (some ⟨pb, 0, none⟩), .int .u64 (a : Int), .int .i64 (n : Int)] w fun e w' => ∃ g cap, e = .returned (.tuple #[.slice (some ⟨g, 0, none⟩) n cap, .int .i64 0]) ∧ Own w' w.heap.size 5 1 IsByte (.slice (some ⟨g, 0, none⟩) n cap) n (byteV (fun i => f (a + i))) ∧ Kept S0 w w' := by
  have c0 := hm.c0
  have c4 := hm.c4
  have HO := Lib.hid (inB_true h)
  have hu : IntKind.u64.wrap (n : Int) = (n : Int) := IntWalk.u64_in _ (by omega)
  have e1 : IntKind.u64.wrap ((a : Int) + (n : Int)) = (a : Int) + (n : Int) := IntWalk.u64_in _ (by omega)
  obtain ⟨D1, r1, d1⟩ := run_cut (P := Try.prog) 36 5 Try.underlying36 Try.size5 (some ⟨bb, 0, none⟩) N N .u64 .u64 (a : Int) ((a : Int) + (n : Int)) a n rfl (by omega) h
  obtain ⟨ob, oo, rfl⟩ : ∃ ob oo, D1 = some ⟨ob, oo, none⟩ := by
    rw [d1]; split
    · exact ⟨_, _, rfl⟩
    · exact ⟨bb, a, by simp [Addr.add_lit]⟩
  have hsl : Sl w (some ⟨ob, oo, none⟩) n (byteV (fun i => f (a + i))) := by rw [d1]; exact (Sl.of_row hm.row (Nat.le_refl N)).cut h (Nat.le_refl _)
  clear d1
  go_enter Try.func14, Try.ntmps14
  go_wp2_with (first | (go_at_call 29; refine (off_made _ _ (by assumption)).mono ?_; rintro e w' ⟨rfl, rfl⟩) | (go_at_call 30; refine (within_any _ _ _ _ (by omega) (by omega) (by omega) (by omega) (by omega) (by omega)).mono ?_; rintro e w' ⟨rfl, rfl⟩; rw [HO.out]) | (go_at_call 31; refine (clone_some _ _ _ _ _ _ (by omega) hsl).mono ?_; rintro e w' ⟨g, cap, rfl, h1, h2⟩))
  go_ret2
  exact ⟨g, cap, rfl, h1, h2⟩
end
end Go.Proofs.Ytjkndigmoclnoaa
