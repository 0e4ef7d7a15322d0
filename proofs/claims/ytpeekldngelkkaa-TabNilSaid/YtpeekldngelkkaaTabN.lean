/- Contracts of a table's calls where there is none. No condition. -/
import Derived.Test.YtpeekldngelkkaaTabA
namespace Go.Proofs.Ytpeekldngelkkaa
open Go.RowKit

/-- There is no table: nil, or a zero object. -/
structure NoTab (w : World) (p : Option Addr) : Prop where
  is : p = none ∨ ∃ pb, p = some ⟨pb, 0, none⟩ ∧ w.cell? ⟨pb, 0, none⟩ = some (.bool false)

theorem NoTab.kept {w w' : World} {p : Option Addr} (h : NoTab w p) (hk : Kept S0 w w') : NoTab w' p := ⟨h.is.imp id fun ⟨pb, e, hc⟩ => ⟨pb, e, (hk.cell (p := ⟨pb, 0, none⟩) (World.block_lt_of_cell? _ _ hc) (fun x => x)).trans hc⟩⟩
theorem NoTab.alloc {w : World} {p : Option Addr} (h : NoTab w p) (o : Obj) : NoTab (w.alloc o) p := h.kept ((Kept.refl S0 w).alloc o)

theorem off_any (p : Option Addr) (w : World) (h : NoTab w p) : Calls Try.prog 27 #[.pointer p] w fun e w' => e = .returned (.bool true) ∧ w = w' := by
  rcases h.is with rfl | ⟨pb, rfl, hc⟩
  · exact off_nil w
  · exact off_zero pb w hc

section
variable {w : World} {p : Option Addr}
theorem size_none (h : NoTab w p) : Calls Try.prog 17 #[.pointer p] w fun e w' => e = .returned (.int .u32 0) ∧ w = w' := by
  go_enter Try.func17, Try.ntmps17
  go_wp2_with (go_at_call 27; refine (off_any _ _ (by assumption)).mono ?_; rintro e w' ⟨rfl, rfl⟩)
  go_ret
  exact ⟨rfl, rfl⟩
theorem all_none (h : NoTab w p) : Calls Try.prog 10 #[.pointer p] w fun e w' => e = .returned (.slice none 0 0) ∧ w = w' := by
  go_enter Try.func10, Try.ntmps10
  go_wp2_with (go_at_call 27; refine (off_any _ _ (by assumption)).mono ?_; rintro e w' ⟨rfl, rfl⟩)
  go_ret
  exact ⟨rfl, rfl⟩
theorem get_none (a : Int) (h : NoTab w p) : Calls Try.prog 16 #[.pointer p, .int .u32 a] w fun e w' => e = .returned (.tuple #[.agg #[.int .u8 0, .int .u64 0, .int .u64 0], .int .i64 1]) ∧ Kept S0 w w' := by
  have h1 := h.alloc (.cells #[.int .u8 0, .int .u64 0, .int .u64 0] 43)
  have hB := Blk.new w 43 #[.int .u8 0, .int .u64 0, .int .u64 0]
  have r0 := hB.cell 0
  have r1 := hB.cell 1
  have r2 := hB.cell 2
  clear h hB
  go_enter Try.func16, Try.ntmps16
  go_wp2_with (go_at_call 27; refine (off_any _ _ (by assumption)).mono ?_; rintro e w' ⟨rfl, rfl⟩)
  exact bodyPost_ret (v := .tuple #[.agg #[.int .u8 0, .int .u64 0, .int .u64 0], .int .i64 1]) (by simp [results, Try.results16, go_sem, r0, r1, r2]) rfl ⟨rfl, (by repeat (first | exact Kept.refl _ _ | assumption | refine Kept.drew ?_ | refine Kept.alloc ?_ _ | refine Kept.setCell ?_ (.inr (by first | exact Nat.le_refl _ | (simp; done) | omega | (simp; omega))) _))⟩
theorem grow_none (n t lo hi : Int) (h : NoTab w p) : Calls Try.prog 15 #[.pointer p, .int .u32 n, .agg #[.int .u8 t, .int .u64 lo, .int .u64 hi]] w fun e w' => e = .returned (.tuple #[.int .u32 0, .int .i64 1]) ∧ Kept S0 w w' := by
  have h1 := h.alloc (.cells #[.int .u8 t, .int .u64 lo, .int .u64 hi] 43)
  clear h
  go_enter Try.func15, Try.ntmps15
  go_wp2_with (go_at_call 27; refine (off_any _ _ (by assumption)).mono ?_; rintro e w' ⟨rfl, rfl⟩)
  go_ret2
  exact ⟨rfl, (by repeat (first | exact Kept.refl _ _ | assumption | refine Kept.drew ?_ | refine Kept.alloc ?_ _ | refine Kept.setCell ?_ (.inr (by first | exact Nat.le_refl _ | (simp; done) | omega | (simp; omega))) _))⟩
theorem fill_none (a n t lo hi : Int) (h : NoTab w p) : Calls Try.prog 18 #[.pointer p, .int .u32 a, .agg #[.int .u8 t, .int .u64 lo, .int .u64 hi], .int .u32 n] w fun e w' => e = .returned (.int .i64 1) ∧ Kept S0 w w' := by
  have h1 := h.alloc (.cells #[.int .u8 t, .int .u64 lo, .int .u64 hi] 43)
  clear h
  go_enter Try.func18, Try.ntmps18
  go_wp2_with (go_at_call 27; refine (off_any _ _ (by assumption)).mono ?_; rintro e w' ⟨rfl, rfl⟩)
  go_ret
  exact ⟨rfl, (by repeat (first | exact Kept.refl _ _ | assumption | refine Kept.drew ?_ | refine Kept.alloc ?_ _ | refine Kept.setCell ?_ (.inr (by first | exact Nat.le_refl _ | (simp; done) | omega | (simp; omega))) _))⟩
theorem set_none (a t lo hi : Int) (h : NoTab w p) : Calls Try.prog 21 #[.pointer p, .int .u32 a, .agg #[.int .u8 t, .int .u64 lo, .int .u64 hi]] w fun e w' => e = .returned (.int .i64 1) ∧ Kept S0 w w' := by
  have hka : Kept S0 w (w.alloc (.cells #[.int .u8 t, .int .u64 lo, .int .u64 hi] 43)) := (Kept.refl S0 w).alloc _
  have H0 := Lib.hid (fill_none a 1 t lo hi (h.kept hka))
  have hB := Blk.new w 43 #[.int .u8 t, .int .u64 lo, .int .u64 hi]
  have e0 := hB.cell 0
  have e1 := hB.cell 1
  have e2 := hB.cell 2
  clear h hB
  go_enter Try.func21, Try.ntmps21
  go_wp2_with fail
  refine H0.out.mono ?_
  rintro e w1 ⟨rfl, hk⟩
  go_wp2_with fail
  go_ret
  exact ⟨rfl, hka.then0 hk⟩
theorem copy_none_a (q : Option Addr) (a b n : Int) (h : NoTab w p) : Calls Try.prog 11 #[.pointer p, .int .u32 a, .pointer q, .int .u32 b, .int .u32 n] w fun e w' => e = .returned (.int .i64 1) ∧ w = w' := by
  go_enter Try.func11, Try.ntmps11
  go_wp2_with (go_at_call 27; refine (off_any _ _ (by assumption)).mono ?_; rintro e w' ⟨rfl, rfl⟩)
  go_ret
  exact ⟨rfl, rfl⟩
theorem copy_none_b (tb : Nat) (a b n : Int) (h0 : w.cell? ⟨tb, 0, none⟩ = some (.bool true)) (h : NoTab w p) : Calls Try.prog 11 #[.pointer (some ⟨tb, 0, none⟩), .int .u32 a, .pointer p, .int .u32 b, .int .u32 n] w fun e w' => e = .returned (.int .i64 1) ∧ w = w' := by
  go_enter Try.func11, Try.ntmps11
  go_wp2_with fail
  refine (off_made _ _ h0).mono ?_
  rintro e w1 ⟨rfl, rfl⟩
  go_wp2_with fail
  refine (off_any _ _ h).mono ?_
  rintro e w1 ⟨rfl, rfl⟩
  go_wp2_with fail
  go_ret
  exact ⟨rfl, rfl⟩
theorem type_none (h : NoTab w p) : Calls Try.prog 26 #[.pointer p] w fun e w' => e = .returned (.agg #[.int .u8 0, .int .u32 0, .int .u32 0, .bool false]) ∧ Kept S0 w w' := by
  have h1 := h.alloc (.cells #[.int .u8 0, .int .u32 0, .int .u32 0, .bool false] 41)
  have hB := Blk.new w 41 #[.int .u8 0, .int .u32 0, .int .u32 0, .bool false]
  have r0 := hB.cell 0
  have r1 := hB.cell 1
  have r2 := hB.cell 2
  have r3 := hB.cell 3
  clear h hB
  go_enter Try.func26, Try.ntmps26
  go_wp2_with (go_at_call 27; refine (off_any _ _ (by assumption)).mono ?_; rintro e w' ⟨rfl, rfl⟩)
  exact bodyPost_ret (v := .agg #[.int .u8 0, .int .u32 0, .int .u32 0, .bool false]) (by simp [results, Try.results26, go_sem, r0, r1, r2, r3]) rfl ⟨rfl, (by repeat (first | exact Kept.refl _ _ | assumption | refine Kept.drew ?_ | refine Kept.alloc ?_ _ | refine Kept.setCell ?_ (.inr (by first | exact Nat.le_refl _ | (simp; done) | omega | (simp; omega))) _))⟩
theorem init_none (a b n : Int) (A : Option Addr) (l c : Nat) (h : NoTab w p) : Calls Try.prog 20 #[.pointer p, .int .u32 a, .slice A l c, .int .u32 b, .int .u32 n] w fun e w' => e = .returned (.int .i64 1) ∧ Kept S0 w w' := by
  have h1 := h.alloc (.cells #[.pointer p] 22)
  have hB := Blk.new w 22 #[.pointer p]
  have r0 := hB.cell 0
  clear h hB
  go_enter Try.func20, Try.ntmps20
  go_wp2_with (go_at_call 27; refine (off_any _ _ (by assumption)).mono ?_; rintro e w' ⟨rfl, rfl⟩)
  go_ret
  exact ⟨rfl, (by repeat (first | exact Kept.refl _ _ | assumption | refine Kept.drew ?_ | refine Kept.alloc ?_ _ | refine Kept.setCell ?_ (.inr (by first | exact Nat.le_refl _ | (simp; done) | omega | (simp; omega))) _))⟩
end
end Go.Proofs.Ytpeekldngelkkaa
