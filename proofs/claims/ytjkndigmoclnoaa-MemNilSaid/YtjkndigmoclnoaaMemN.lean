/- Contracts of a memory's calls where there is none. No condition. -/
import Derived.Test.YtjkndigmoclnoaaMemA
import Derived.Test.YtjkndigmoclnoaaBase2
namespace Go.Proofs.Ytjkndigmoclnoaa
open Go.RowKit

/-- There is no memory: nil, or a zero object. -/
structure NoMem (w : World) (p : Option Addr) : Prop where
  is : p = none ∨ ∃ pb, p = some ⟨pb, 0, none⟩ ∧ w.cell? ⟨pb, 0, none⟩ = some (.bool false)

theorem NoMem.kept {w w' : World} {p : Option Addr} (h : NoMem w p) (hk : Kept S0 w w') : NoMem w' p := ⟨h.is.imp id fun ⟨pb, e, hc⟩ => ⟨pb, e, (hk.cell (p := ⟨pb, 0, none⟩) (World.block_lt_of_cell? _ _ hc) (fun x => x)).trans hc⟩⟩
theorem NoMem.alloc {w : World} {p : Option Addr} (h : NoMem w p) (o : Obj) : NoMem (w.alloc o) p := h.kept ((Kept.refl S0 w).alloc o)

theorem off_any (p : Option Addr) (w : World) (h : NoMem w p) : Calls Try.prog 29 #[.pointer p] w fun e w' => e = .returned (.bool true) ∧ w = w' := by
  rcases h.is with rfl | ⟨pb, rfl, hc⟩
  · exact off_nil w
  · exact off_zero pb w hc

section
variable {w : World} {p : Option Addr}
theorem fill_none (a c n : Int) (h : NoMem w p) : Calls Try.prog 11 #[.pointer p, .int .u64 a, .int .u8 c, .int .u64 n] w fun e w' => e = .returned (.int .i64 1) ∧ w = w' := by
  go_enter Try.func11, Try.ntmps11
  go_wp2_with (go_at_call 29; refine (off_any _ _ (by assumption)).mono ?_; rintro e w' ⟨rfl, rfl⟩)
  go_ret
  exact ⟨rfl, rfl⟩
theorem write_none (a : Int) (A : Option Addr) (n c : Nat) (h : NoMem w p) : Calls Try.prog 16 #[.pointer p, .int .u64 a, .slice A n c] w fun e w' => e = .returned (.int .i64 1) ∧ w = w' := by
  go_enter Try.func16, Try.ntmps16
  go_wp2_with (go_at_call 29; refine (off_any _ _ (by assumption)).mono ?_; rintro e w' ⟨rfl, rfl⟩)
  go_ret
  exact ⟨rfl, rfl⟩
theorem copy_none (a b n : Int) (h : NoMem w p) : Calls Try.prog 17 #[.pointer p, .int .u64 a, .int .u64 b, .int .u64 n] w fun e w' => e = .returned (.int .i64 1) ∧ w = w' := by
  go_enter Try.func17, Try.ntmps17
  go_wp2_with (go_at_call 29; refine (off_any _ _ (by assumption)).mono ?_; rintro e w' ⟨rfl, rfl⟩)
  go_ret
  exact ⟨rfl, rfl⟩
theorem init_none (a b n : Int) (A : Option Addr) (l c : Nat) (h : NoMem w p) : Calls Try.prog 22 #[.pointer p, .int .u64 a, .slice A l c, .int .u64 b, .int .u64 n] w fun e w' => e = .returned (.int .i64 1) ∧ w = w' := by
  go_enter Try.func22, Try.ntmps22
  go_wp2_with (go_at_call 29; refine (off_any _ _ (by assumption)).mono ?_; rintro e w' ⟨rfl, rfl⟩)
  go_ret
  exact ⟨rfl, rfl⟩
theorem read_none (a n : Int) (h : NoMem w p) : Calls Try.prog 14 #[.pointer p, .int .u64 a, .int .i64 n] w fun e w' => e = .returned (.tuple #[.slice none 0 0, .int .i64 1]) ∧ w = w' := by
  go_enter Try.func14, Try.ntmps14
  go_wp2_with (go_at_call 29; refine (off_any _ _ (by assumption)).mono ?_; rintro e w' ⟨rfl, rfl⟩)
  go_ret2
  exact ⟨rfl, rfl⟩
theorem grow_none (n : Int) (h : NoMem w p) : Calls Try.prog 13 #[.pointer p, .int .u32 n] w fun e w' => e = .returned (.tuple #[.int .u32 0, .int .i64 1]) ∧ w = w' := by
  go_enter Try.func13, Try.ntmps13
  go_wp2_with (go_at_call 29; refine (off_any _ _ (by assumption)).mono ?_; rintro e w' ⟨rfl, rfl⟩)
  go_ret2
  exact ⟨rfl, rfl⟩
theorem pages_none (h : NoMem w p) : Calls Try.prog 12 #[.pointer p] w fun e w' => e = .returned (.int .u32 0) ∧ w = w' := by
  go_enter Try.func12, Try.ntmps12
  go_wp2_with (go_at_call 29; refine (off_any _ _ (by assumption)).mono ?_; rintro e w' ⟨rfl, rfl⟩)
  go_ret
  exact ⟨rfl, rfl⟩
theorem sum_none (h : NoMem w p) : Calls Try.prog 21 #[.pointer p] w fun e w' => e = .returned (.int .u64 0) ∧ w = w' := by
  go_enter Try.func21, Try.ntmps21
  go_wp2_with (go_at_call 29; refine (off_any _ _ (by assumption)).mono ?_; rintro e w' ⟨rfl, rfl⟩)
  go_ret
  exact ⟨rfl, rfl⟩
theorem load_none (a n : Int) (h : NoMem w p) : Calls Try.prog 20 #[.pointer p, .int .u64 a, .int .i64 n] w fun e w' => e = .returned (.tuple #[.agg #[.int .u64 0, .int .u64 0], .int .i64 1]) ∧ Kept S0 w w' := by
  have h1 := h.alloc (.cells #[.int .u64 0, .int .u64 0] 47)
  clear h
  go_enter Try.func20, Try.ntmps20
  go_wp2_with (go_at_call 29; refine (off_any _ _ (by assumption)).mono ?_; rintro e w' ⟨rfl, rfl⟩)
  exact bodyPost_ret (v := .tuple #[.agg #[.int .u64 0, .int .u64 0], .int .i64 1]) (by simp [results, Try.results20, go_sem]) rfl ⟨rfl, (by repeat (first | exact Kept.refl _ _ | assumption | refine Kept.drew ?_ | refine Kept.alloc ?_ _ | refine Kept.setCell ?_ (.inr (by first | exact Nat.le_refl _ | (simp; done) | omega | (simp; omega))) _))⟩
theorem store_none (a n lo hi : Int) (h : NoMem w p) : Calls Try.prog 19 #[.pointer p, .int .u64 a, .int .i64 n, .agg #[.int .u64 lo, .int .u64 hi]] w fun e w' => e = .returned (.int .i64 1) ∧ Kept S0 w w' := by
  have h1 := h.alloc (.cells #[.int .u64 lo, .int .u64 hi] 47)
  clear h
  go_enter Try.func19, Try.ntmps19
  go_wp2_with (go_at_call 29; refine (off_any _ _ (by assumption)).mono ?_; rintro e w' ⟨rfl, rfl⟩)
  go_ret
  exact ⟨rfl, (by repeat (first | exact Kept.refl _ _ | assumption | refine Kept.drew ?_ | refine Kept.alloc ?_ _ | refine Kept.setCell ?_ (.inr (by first | exact Nat.le_refl _ | (simp; done) | omega | (simp; omega))) _))⟩
theorem type_none (h : NoMem w p) : Calls Try.prog 27 #[.pointer p] w fun e w' => e = .returned (.agg #[.int .u32 0, .int .u32 0, .bool false]) ∧ Kept S0 w w' := by
  have h1 := h.alloc (.cells #[.int .u32 0, .int .u32 0, .bool false] 24)
  clear h
  go_enter Try.func27, Try.ntmps27
  go_wp2_with (go_at_call 29; refine (off_any _ _ (by assumption)).mono ?_; rintro e w' ⟨rfl, rfl⟩)
  exact bodyPost_ret (v := .agg #[.int .u32 0, .int .u32 0, .bool false]) (by simp [results, Try.results27, go_sem]) rfl ⟨rfl, (by repeat (first | exact Kept.refl _ _ | assumption | refine Kept.drew ?_ | refine Kept.alloc ?_ _ | refine Kept.setCell ?_ (.inr (by first | exact Nat.le_refl _ | (simp; done) | omega | (simp; omega))) _))⟩
end
end Go.Proofs.Ytjkndigmoclnoaa
