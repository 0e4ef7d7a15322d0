/- Contracts of a store's AddTable, AddMem, of the smallest table and memory. No condition. -/
import Derived.Test.YtlnkdnmeikpckaaStI
namespace Go.Proofs.Ytlnkdnmeikpckaa
open Go.RowKit

theorem Try.infoByte : (Try.prog.info? 5).map (fun i => (i.zero, i.size, i.bytes)) = some (some (.int .u8 0), 1, 1) := by kernel_rfl

set_option maxHeartbeats 1600000 in
theorem more0 (p : Value) (t lo hi : Int) (w : World) : Calls Try.prog 83 #[p, .int .i64 0, .agg #[.int .u8 t, .int .u64 lo, .int .u64 hi]] w fun e w' => e = .returned (.tuple #[]) ∧ Kept S0 w w' := by
  go_enter Try.func83, Try.ntmps83
  go_wp2_with fail
  go_loopw [7] (fun i wr => i = .int .i64 0 ∧ Kept S0 w wr) (fun _ _ => 0)
  case atStart => exact ⟨rfl, (by repeat (first | exact Kept.refl _ _ | assumption | refine Kept.drew ?_ | refine Kept.alloc ?_ _ | refine Kept.setCell ?_ (.inr (by first | exact Nat.le_refl _ | (simp; done) | omega | (simp; omega))) _))⟩
  case round =>
    obtain ⟨rfl, hk⟩ := hrel
    go_wp2_with fail
    go_end0
    exact ⟨rfl, hk⟩

set_option maxRecDepth 100000 in
set_option maxHeartbeats 3200000 in
theorem newtab0 (w : World) : Calls Try.prog 51 #[.agg #[.int .u8 112, .int .u32 0, .int .u32 0, .bool false], .agg #[.int .u8 112, .int .u64 0, .int .u64 0]] w fun e w' => ∃ g, e = .returned (.tuple #[.pointer (some ⟨g, 0, none⟩), .int .i64 0]) ∧ Kept S0 w w' := by
  go_enter Try.func51, Try.ntmps51
  go_wp2_with (first | (go_at_call 83; refine (more0 _ _ _ _ _).mono ?_; rintro e w' ⟨rfl, hk⟩; have HK := Lib.hid hk; clear hk) | go_in)
  go_ret2
  exact ⟨_, rfl, (((by repeat (first | exact Kept.refl _ _ | assumption | refine Kept.drew ?_ | refine Kept.alloc ?_ _ | refine Kept.setCell ?_ (.inr (by first | exact Nat.le_refl _ | (simp; done) | omega | (simp; omega))) _)) : Kept S0 w _)).then0 HK.out⟩

set_option maxRecDepth 100000 in
set_option maxHeartbeats 3200000 in
theorem newmem0 (w : World) : Calls Try.prog 53 #[.agg #[.int .u32 0, .int .u32 0, .bool false]] w fun e w' => ∃ g, e = .returned (.tuple #[.pointer (some ⟨g, 0, none⟩), .int .i64 0]) ∧ Kept S0 w w' := by
  have hmk := fun W => by simpa using run_make_row' (P := Try.prog) 26 5 (.int .u8 0) 1 Try.underlying26 Try.infoByte rfl .i64 .i64 0 (by omega) (by omega) W
  go_enter Try.func53, Try.ntmps53
  go_wp2
  go_region
  go_wp2
  go_ret2
  exact ⟨_, rfl, (by repeat (first | exact Kept.refl _ _ | assumption | refine Kept.drew ?_ | refine Kept.alloc ?_ _ | refine Kept.setCell ?_ (.inr (by first | exact Nat.le_refl _ | (simp; done) | omega | (simp; omega))) _))⟩
end Go.Proofs.Ytlnkdnmeikpckaa
