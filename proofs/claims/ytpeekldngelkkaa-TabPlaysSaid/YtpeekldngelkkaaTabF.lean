/- Contracts of a table's Get, Set, Grow. No condition. -/
import Derived.Test.YtpeekldngelkkaaTabD
namespace Go.Proofs.Ytpeekldngelkkaa
open Go.RowKit

section
variable {w : World} {tb base N : Nat} {el mn mx : Int} {bd : Bool} {lv : Value} {f : Nat → V3}

theorem set_bad (at_ : Int) (x : V3) (hm : TabAt w tb base N el mn mx bd lv f) (hel : el = 112 ∨ el = 111) (hf : fitB x.t x.lo x.hi el = false) :
    Calls Try.prog 21 #[.pointer (some ⟨tb, 0, none⟩), .int .u32 at_, .agg #[.int .u8 x.t, .int .u64 x.lo, .int .u64 x.hi]] w fun e w' => e = .returned (.int .i64 2) ∧ Kept S0 w w' := by
  have hka : Kept S0 w (w.alloc (.cells #[.int .u8 x.t, .int .u64 x.lo, .int .u64 x.hi] 43)) := (Kept.refl S0 w).alloc _
  have H0 := Lib.hid (fill_bad at_ 1 x (hm.kept0 hka) hel hf)
  have hB := Blk.new w 43 #[.int .u8 x.t, .int .u64 x.lo, .int .u64 x.hi]
  have e0 := hB.cell 0
  have e1 := hB.cell 1
  have e2 := hB.cell 2
  clear hm hel hf hB
  go_enter Try.func21, Try.ntmps21
  go_wp2_with fail
  refine H0.out.mono ?_
  rintro e w1 ⟨rfl, hk⟩
  go_wp2_with fail
  go_ret
  exact ⟨rfl, hka.then0 hk⟩

theorem set_trap (at_ : Int) (x : V3) (hm : TabAt w tb base N el mn mx bd lv f) (hN : N ≤ 16384) (hel : el = 112 ∨ el = 111) (hf : fitB x.t x.lo x.hi el = true) (h1 : 0 ≤ at_) (h5 : at_ ≤ 4294967295) (ho : inB at_ 1 N = false) :
    Calls Try.prog 21 #[.pointer (some ⟨tb, 0, none⟩), .int .u32 at_, .agg #[.int .u8 x.t, .int .u64 x.lo, .int .u64 x.hi]] w fun e w' => e = .returned (.int .i64 6) ∧ Kept S0 w w' := by
  have hka : Kept S0 w (w.alloc (.cells #[.int .u8 x.t, .int .u64 x.lo, .int .u64 x.hi] 43)) := (Kept.refl S0 w).alloc _
  have H0 := Lib.hid (fill_trap at_ 1 x (hm.kept0 hka) hN hel hf h1 (by omega) h5 (by omega) ho)
  have hB := Blk.new w 43 #[.int .u8 x.t, .int .u64 x.lo, .int .u64 x.hi]
  have e0 := hB.cell 0
  have e1 := hB.cell 1
  have e2 := hB.cell 2
  clear hm hel hf hB
  go_enter Try.func21, Try.ntmps21
  go_wp2_with fail
  refine H0.out.mono ?_
  rintro e w1 ⟨rfl, hk⟩
  go_wp2_with fail
  go_ret
  exact ⟨rfl, hka.then0 hk⟩

theorem set_in (k : Nat) (x : V3) (hm : TabAt w tb base N el mn mx bd lv f) (hN : N ≤ 16384) (hel : el = 112 ∨ el = 111) (hf : fitB x.t x.lo x.hi el = true) (hk : k < N) :
    Calls Try.prog 21 #[.pointer (some ⟨tb, 0, none⟩), .int .u32 (k : Int), .agg #[.int .u8 x.t, .int .u64 x.lo, .int .u64 x.hi]] w fun e w' => e = .returned (.int .i64 0) ∧ TabAt w' tb base N el mn mx bd lv (overV f k 1 (fun _ => x)) ∧ Kept (SO lv) w w' := by
  have hka : Kept S0 w (w.alloc (.cells #[.int .u8 x.t, .int .u64 x.lo, .int .u64 x.hi] 43)) := (Kept.refl S0 w).alloc _
  have H0 := Lib.hid (fill_in k 1 x (hm.kept0 hka) hN hel hf (by omega))
  have hB := Blk.new w 43 #[.int .u8 x.t, .int .u64 x.lo, .int .u64 x.hi]
  have e0 := hB.cell 0
  have e1 := hB.cell 1
  have e2 := hB.cell 2
  clear hm hel hf hB
  go_enter Try.func21, Try.ntmps21
  go_wp2_with fail
  refine H0.out.mono ?_
  rintro e w1 ⟨rfl, hm1, hk⟩
  go_wp2_with fail
  go_ret
  exact ⟨rfl, hm1, (hka.of0 _).trans hk⟩

set_option maxHeartbeats 800000 in
theorem get_in (k : Nat) (hm : TabAt w tb base N el mn mx bd lv f) (hN : N ≤ 16384) (hk : k < N) :
    Calls Try.prog 16 #[.pointer (some ⟨tb, 0, none⟩), .int .u32 (k : Int)] w fun e w' => e = .returned (.tuple #[.agg #[.int .u8 (f k).t, .int .u64 (f k).lo, .int .u64 (f k).hi], .int .i64 0]) ∧ Kept S0 w w' := by
  rcases hm.own with ⟨_, h0⟩ | ⟨g, cap, fr, rfl, hbg, hNc, hcm, hrow, hF, hQ⟩
  · omega
  have u1 : IntKind.u64.wrap (k : Int) = (k : Int) := IntWalk.u64_in _ (by omega)
  have u2 : IntKind.u64.wrap (N : Int) = (N : Int) := IntWalk.u64_in _ (by omega)
  have hka : Kept S0 w (w.alloc (.cells #[.int .u8 0, .int .u64 0, .int .u64 0] 43)) := (Kept.refl S0 w).alloc _
  have hm1 := hm.kept0 hka
  have c0 := hm1.c0
  have c5 := hm1.c5
  have hrow1 := hka.row hrow (fun x => x)
  have d0 : (w.alloc (.cells #[.int .u8 0, .int .u64 0, .int .u64 0] 43)).cell? ⟨g, k * 3, none⟩ = some (.int .u8 (f k).t) := by rw [← vcell_0, ← hF _ (by omega)]; exact hrow1.cell (by omega)
  have d1 : (w.alloc (.cells #[.int .u8 0, .int .u64 0, .int .u64 0] 43)).cell? ⟨g, k * 3 + 1, none⟩ = some (.int .u64 (f k).lo) := by rw [← vcell_1, ← hF _ (by omega)]; exact hrow1.cell (by omega)
  have d2 : (w.alloc (.cells #[.int .u8 0, .int .u64 0, .int .u64 0] 43)).cell? ⟨g, k * 3 + 2, none⟩ = some (.int .u64 (f k).hi) := by rw [← vcell_2, ← hF _ (by omega)]; exact hrow1.cell (by omega)
  clear hm hm1 hrow hrow1 hF hQ
  go_enter Try.func16, Try.ntmps16
  go_wp2_with fail
  refine (off_made _ _ c0).mono ?_
  rintro e w1 ⟨rfl, rfl⟩
  have hB := Blk.new w 43 #[.int .u8 (f k).t, .int .u64 (f k).lo, .int .u64 (f k).hi]
  have r0 := hB.cell 0
  have r1 := hB.cell 1
  have r2 := hB.cell 2
  go_wp2_with fail
  exact bodyPost_ret (v := .tuple #[.agg #[.int .u8 (f k).t, .int .u64 (f k).lo, .int .u64 (f k).hi], .int .i64 0]) (by simp [results, Try.results16, go_sem, r0, r1, r2]) rfl ⟨rfl, (by repeat (first | exact Kept.refl _ _ | assumption | refine Kept.drew ?_ | refine Kept.alloc ?_ _ | refine Kept.setCell ?_ (.inr (by first | exact Nat.le_refl _ | (simp; done) | omega | (simp; omega))) _))⟩

set_option maxHeartbeats 800000 in
theorem get_out (k : Nat) (hm : TabAt w tb base N el mn mx bd lv f) (hN : N ≤ 16384) (hk : N ≤ k) (hk2 : k ≤ 4294967295) :
    Calls Try.prog 16 #[.pointer (some ⟨tb, 0, none⟩), .int .u32 (k : Int)] w fun e w' => e = .returned (.tuple #[.agg #[.int .u8 0, .int .u64 0, .int .u64 0], .int .i64 6]) ∧ Kept S0 w w' := by
  obtain ⟨A, c, rfl, _, _, _⟩ := hm.own.out
  have u1 : IntKind.u64.wrap (k : Int) = (k : Int) := IntWalk.u64_in _ (by omega)
  have u2 : IntKind.u64.wrap (N : Int) = (N : Int) := IntWalk.u64_in _ (by omega)
  have hka : Kept S0 w (w.alloc (.cells #[.int .u8 0, .int .u64 0, .int .u64 0] 43)) := (Kept.refl S0 w).alloc _
  have hm1 := hm.kept0 hka
  have c0 := hm1.c0
  have c5 := hm1.c5
  have hB := Blk.new w 43 #[.int .u8 0, .int .u64 0, .int .u64 0]
  have r0 := hB.cell 0
  have r1 := hB.cell 1
  have r2 := hB.cell 2
  clear hm hm1 hB
  go_enter Try.func16, Try.ntmps16
  go_wp2_with fail
  refine (off_made _ _ c0).mono ?_
  rintro e w1 ⟨rfl, rfl⟩
  go_wp2_with fail
  exact bodyPost_ret (v := .tuple #[.agg #[.int .u8 0, .int .u64 0, .int .u64 0], .int .i64 6]) (by simp [results, Try.results16, go_sem, r0, r1, r2]) rfl ⟨rfl, hka⟩
end
end Go.Proofs.Ytpeekldngelkkaa
