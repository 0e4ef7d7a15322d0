/- Contracts of a store's calls where there is none. No condition. -/
import Derived.Test.YtlnkdnmeikpckaaStI
namespace Go.Proofs.Ytlnkdnmeikpckaa
open Go.RowKit

section
variable {w : World} {p : Option Addr}
set_option maxRecDepth 100000 in
set_option maxHeartbeats 1600000 in
theorem addfunc_none (fpA : Option Addr) (fpn fpc : Nat) (frA : Option Addr) (frn frc : Nat) (fh : Bool) (fs : ByteArray) (fi : Int) (fb : Int) (h : NoStore w p) : Calls Try.prog 10 #[.pointer p, .agg #[.slice fpA fpn fpc, .slice frA frn frc, .bool fh, .string fs, .int .i64 fi, .int .i64 fb]] w fun e w' => e = .returned (.tuple #[.int .i64 0, .int .i64 1]) ∧ Kept S0 w w' := by
  have h1 := h.kept (w' := (w.alloc (.cells #[.slice fpA fpn fpc, .slice frA frn frc, .bool fh, .string fs, .int .i64 fi, .int .i64 fb] 36))) ((by repeat (first | exact Kept.refl _ _ | assumption | refine Kept.drew ?_ | refine Kept.alloc ?_ _ | refine Kept.setCell ?_ (.inr (by first | exact Nat.le_refl _ | (simp; done) | omega | (simp; omega))) _)))
  clear h
  go_enter Try.func10, Try.ntmps10
  go_wp2_with (go_at_call 35; refine (off_any _ _ (by assumption)).mono ?_; rintro e w' ⟨rfl, rfl⟩)
  go_ret2
  exact ⟨rfl, (by repeat (first | exact Kept.refl _ _ | assumption | refine Kept.drew ?_ | refine Kept.alloc ?_ _ | refine Kept.setCell ?_ (.inr (by first | exact Nat.le_refl _ | (simp; done) | omega | (simp; omega))) _))⟩
set_option maxRecDepth 100000 in
set_option maxHeartbeats 1600000 in
theorem addtable_none (te : Int) (tm : Int) (tx : Int) (tb : Bool) (t : Int) (lo : Int) (hi : Int) (h : NoStore w p) : Calls Try.prog 21 #[.pointer p, .agg #[.int .u8 te, .int .u32 tm, .int .u32 tx, .bool tb], .agg #[.int .u8 t, .int .u64 lo, .int .u64 hi]] w fun e w' => e = .returned (.tuple #[.int .i64 0, .int .i64 1]) ∧ Kept S0 w w' := by
  have h1 := h.kept (w' := (w.alloc (.cells #[.int .u8 te, .int .u32 tm, .int .u32 tx, .bool tb] 59))) ((by repeat (first | exact Kept.refl _ _ | assumption | refine Kept.drew ?_ | refine Kept.alloc ?_ _ | refine Kept.setCell ?_ (.inr (by first | exact Nat.le_refl _ | (simp; done) | omega | (simp; omega))) _)))
  have h2 := h.kept (w' := ((w.alloc (.cells #[.int .u8 te, .int .u32 tm, .int .u32 tx, .bool tb] 59)).alloc (.cells #[.int .u8 t, .int .u64 lo, .int .u64 hi] 40))) ((by repeat (first | exact Kept.refl _ _ | assumption | refine Kept.drew ?_ | refine Kept.alloc ?_ _ | refine Kept.setCell ?_ (.inr (by first | exact Nat.le_refl _ | (simp; done) | omega | (simp; omega))) _)))
  clear h
  go_enter Try.func21, Try.ntmps21
  go_wp2_with (go_at_call 35; refine (off_any _ _ (by assumption)).mono ?_; rintro e w' ⟨rfl, rfl⟩)
  go_ret2
  exact ⟨rfl, (by repeat (first | exact Kept.refl _ _ | assumption | refine Kept.drew ?_ | refine Kept.alloc ?_ _ | refine Kept.setCell ?_ (.inr (by first | exact Nat.le_refl _ | (simp; done) | omega | (simp; omega))) _))⟩
set_option maxRecDepth 100000 in
set_option maxHeartbeats 1600000 in
theorem addmem_none (lm : Int) (lx : Int) (lb : Bool) (h : NoStore w p) : Calls Try.prog 22 #[.pointer p, .agg #[.int .u32 lm, .int .u32 lx, .bool lb]] w fun e w' => e = .returned (.tuple #[.int .i64 0, .int .i64 1]) ∧ Kept S0 w w' := by
  have h1 := h.kept (w' := (w.alloc (.cells #[.int .u32 lm, .int .u32 lx, .bool lb] 57))) ((by repeat (first | exact Kept.refl _ _ | assumption | refine Kept.drew ?_ | refine Kept.alloc ?_ _ | refine Kept.setCell ?_ (.inr (by first | exact Nat.le_refl _ | (simp; done) | omega | (simp; omega))) _)))
  clear h
  go_enter Try.func22, Try.ntmps22
  go_wp2_with (go_at_call 35; refine (off_any _ _ (by assumption)).mono ?_; rintro e w' ⟨rfl, rfl⟩)
  go_ret2
  exact ⟨rfl, (by repeat (first | exact Kept.refl _ _ | assumption | refine Kept.drew ?_ | refine Kept.alloc ?_ _ | refine Kept.setCell ?_ (.inr (by first | exact Nat.le_refl _ | (simp; done) | omega | (simp; omega))) _))⟩
set_option maxRecDepth 100000 in
set_option maxHeartbeats 1600000 in
theorem addglobal_none (gv : Int) (gm : Bool) (t : Int) (lo : Int) (hi : Int) (h : NoStore w p) : Calls Try.prog 23 #[.pointer p, .agg #[.int .u8 gv, .bool gm], .agg #[.int .u8 t, .int .u64 lo, .int .u64 hi]] w fun e w' => e = .returned (.tuple #[.int .i64 0, .int .i64 1]) ∧ Kept S0 w w' := by
  have h1 := h.kept (w' := (w.alloc (.cells #[.int .u8 gv, .bool gm] 64))) ((by repeat (first | exact Kept.refl _ _ | assumption | refine Kept.drew ?_ | refine Kept.alloc ?_ _ | refine Kept.setCell ?_ (.inr (by first | exact Nat.le_refl _ | (simp; done) | omega | (simp; omega))) _)))
  have h2 := h.kept (w' := ((w.alloc (.cells #[.int .u8 gv, .bool gm] 64)).alloc (.cells #[.int .u8 t, .int .u64 lo, .int .u64 hi] 40))) ((by repeat (first | exact Kept.refl _ _ | assumption | refine Kept.drew ?_ | refine Kept.alloc ?_ _ | refine Kept.setCell ?_ (.inr (by first | exact Nat.le_refl _ | (simp; done) | omega | (simp; omega))) _)))
  clear h
  go_enter Try.func23, Try.ntmps23
  go_wp2_with (go_at_call 35; refine (off_any _ _ (by assumption)).mono ?_; rintro e w' ⟨rfl, rfl⟩)
  go_ret2
  exact ⟨rfl, (by repeat (first | exact Kept.refl _ _ | assumption | refine Kept.drew ?_ | refine Kept.alloc ?_ _ | refine Kept.setCell ?_ (.inr (by first | exact Nat.le_refl _ | (simp; done) | omega | (simp; omega))) _))⟩
set_option maxRecDepth 100000 in
set_option maxHeartbeats 1600000 in
theorem addelem_none (t : Int) (lA : Option Addr) (ln lc : Nat) (h : NoStore w p) : Calls Try.prog 11 #[.pointer p, .int .u8 t, .slice lA ln lc] w fun e w' => e = .returned (.tuple #[.int .i64 0, .int .i64 1]) ∧ Kept S0 w w' := by
  have h1 := h.kept (w' := (w.alloc (.cells #[.int .u8 t] 37))) ((by repeat (first | exact Kept.refl _ _ | assumption | refine Kept.drew ?_ | refine Kept.alloc ?_ _ | refine Kept.setCell ?_ (.inr (by first | exact Nat.le_refl _ | (simp; done) | omega | (simp; omega))) _)))
  clear h
  go_enter Try.func11, Try.ntmps11
  go_wp2_with (go_at_call 35; refine (off_any _ _ (by assumption)).mono ?_; rintro e w' ⟨rfl, rfl⟩)
  go_ret2
  exact ⟨rfl, (by repeat (first | exact Kept.refl _ _ | assumption | refine Kept.drew ?_ | refine Kept.alloc ?_ _ | refine Kept.setCell ?_ (.inr (by first | exact Nat.le_refl _ | (simp; done) | omega | (simp; omega))) _))⟩
set_option maxRecDepth 100000 in
set_option maxHeartbeats 1600000 in
theorem adddata_none (lA : Option Addr) (ln lc : Nat) (h : NoStore w p) : Calls Try.prog 12 #[.pointer p, .slice lA ln lc] w fun e w' => e = .returned (.tuple #[.int .i64 0, .int .i64 1]) ∧ Kept S0 w w' := by
  go_enter Try.func12, Try.ntmps12
  go_wp2_with (go_at_call 35; refine (off_any _ _ (by assumption)).mono ?_; rintro e w' ⟨rfl, rfl⟩)
  go_ret2
  exact ⟨rfl, (by repeat (first | exact Kept.refl _ _ | assumption | refine Kept.drew ?_ | refine Kept.alloc ?_ _ | refine Kept.setCell ?_ (.inr (by first | exact Nat.le_refl _ | (simp; done) | omega | (simp; omega))) _))⟩
set_option maxRecDepth 100000 in
set_option maxHeartbeats 1600000 in
theorem addinst_none (i0A : Option Addr) (i0n i0c : Nat) (i1A : Option Addr) (i1n i1c : Nat) (i2A : Option Addr) (i2n i2c : Nat) (i3A : Option Addr) (i3n i3c : Nat) (i4A : Option Addr) (i4n i4c : Nat) (i5A : Option Addr) (i5n i5c : Nat) (i6A : Option Addr) (i6n i6c : Nat) (i7A : Option Addr) (i7n i7c : Nat) (i8A : Option Addr) (i8n i8c : Nat) (h : NoStore w p) : Calls Try.prog 24 #[.pointer p, .agg #[.slice i0A i0n i0c, .slice i1A i1n i1c, .slice i2A i2n i2c, .slice i3A i3n i3c, .slice i4A i4n i4c, .slice i5A i5n i5c, .slice i6A i6n i6c, .slice i7A i7n i7c, .slice i8A i8n i8c]] w fun e w' => e = .returned (.tuple #[.int .i64 0, .int .i64 1]) ∧ Kept S0 w w' := by
  have h1 := h.kept (w' := (w.alloc (.cells #[.slice i0A i0n i0c, .slice i1A i1n i1c, .slice i2A i2n i2c, .slice i3A i3n i3c, .slice i4A i4n i4c, .slice i5A i5n i5c, .slice i6A i6n i6c, .slice i7A i7n i7c, .slice i8A i8n i8c] 70))) ((by repeat (first | exact Kept.refl _ _ | assumption | refine Kept.drew ?_ | refine Kept.alloc ?_ _ | refine Kept.setCell ?_ (.inr (by first | exact Nat.le_refl _ | (simp; done) | omega | (simp; omega))) _)))
  clear h
  go_enter Try.func24, Try.ntmps24
  go_wp2_with (go_at_call 35; refine (off_any _ _ (by assumption)).mono ?_; rintro e w' ⟨rfl, rfl⟩)
  go_ret2
  exact ⟨rfl, (by repeat (first | exact Kept.refl _ _ | assumption | refine Kept.drew ?_ | refine Kept.alloc ?_ _ | refine Kept.setCell ?_ (.inr (by first | exact Nat.le_refl _ | (simp; done) | omega | (simp; omega))) _))⟩
set_option maxRecDepth 100000 in
set_option maxHeartbeats 1600000 in
theorem func_none (a : Int) (h : NoStore w p) : Calls Try.prog 14 #[.pointer p, .int .i64 a] w fun e w' => e = .returned (.tuple #[.agg #[.slice none 0 0, .slice none 0 0, .bool false, .string { data := #[] }, .int .i64 0, .int .i64 0], .int .i64 1]) ∧ Kept S0 w w' := by
  have h1 := h.kept (w' := (w.alloc (.cells #[.slice none 0 0, .slice none 0 0, .bool false, .string { data := #[] }, .int .i64 0, .int .i64 0] 36))) ((by repeat (first | exact Kept.refl _ _ | assumption | refine Kept.drew ?_ | refine Kept.alloc ?_ _ | refine Kept.setCell ?_ (.inr (by first | exact Nat.le_refl _ | (simp; done) | omega | (simp; omega))) _)))
  have B0 : Blk (w.alloc (.cells #[.slice none 0 0, .slice none 0 0, .bool false, .string { data := #[] }, .int .i64 0, .int .i64 0] 36)) w.heap.size 36 #[.slice none 0 0, .slice none 0 0, .bool false, .string { data := #[] }, .int .i64 0, .int .i64 0] := (Blk.new w _ _)
  have r00 := B0.cell 0
  have r01 := B0.cell 1
  have r02 := B0.cell 2
  have r03 := B0.cell 3
  have r04 := B0.cell 4
  have r05 := B0.cell 5
  clear B0
  clear h
  go_enter Try.func14, Try.ntmps14
  go_wp2_with (go_at_call 35; refine (off_any _ _ (by assumption)).mono ?_; rintro e w' ⟨rfl, rfl⟩)
  exact bodyPost_ret (v := .tuple #[.agg #[.slice none 0 0, .slice none 0 0, .bool false, .string { data := #[] }, .int .i64 0, .int .i64 0], .int .i64 1]) (by simp [results, Try.results14, go_sem, r00, r01, r02, r03, r04, r05]) rfl ⟨rfl, (by repeat (first | exact Kept.refl _ _ | assumption | refine Kept.drew ?_ | refine Kept.alloc ?_ _ | refine Kept.setCell ?_ (.inr (by first | exact Nat.le_refl _ | (simp; done) | omega | (simp; omega))) _))⟩
set_option maxRecDepth 100000 in
set_option maxHeartbeats 1600000 in
theorem table_none (a : Int) (h : NoStore w p) : Calls Try.prog 25 #[.pointer p, .int .i64 a] w fun e w' => e = .returned (.tuple #[.pointer none, .int .i64 1]) ∧ Kept S0 w w' := by
  go_enter Try.func25, Try.ntmps25
  go_wp2_with (go_at_call 35; refine (off_any _ _ (by assumption)).mono ?_; rintro e w' ⟨rfl, rfl⟩)
  go_ret2
  exact ⟨rfl, (by repeat (first | exact Kept.refl _ _ | assumption | refine Kept.drew ?_ | refine Kept.alloc ?_ _ | refine Kept.setCell ?_ (.inr (by first | exact Nat.le_refl _ | (simp; done) | omega | (simp; omega))) _))⟩
set_option maxRecDepth 100000 in
set_option maxHeartbeats 1600000 in
theorem mem_none (a : Int) (h : NoStore w p) : Calls Try.prog 26 #[.pointer p, .int .i64 a] w fun e w' => e = .returned (.tuple #[.pointer none, .int .i64 1]) ∧ Kept S0 w w' := by
  go_enter Try.func26, Try.ntmps26
  go_wp2_with (go_at_call 35; refine (off_any _ _ (by assumption)).mono ?_; rintro e w' ⟨rfl, rfl⟩)
  go_ret2
  exact ⟨rfl, (by repeat (first | exact Kept.refl _ _ | assumption | refine Kept.drew ?_ | refine Kept.alloc ?_ _ | refine Kept.setCell ?_ (.inr (by first | exact Nat.le_refl _ | (simp; done) | omega | (simp; omega))) _))⟩
set_option maxRecDepth 100000 in
set_option maxHeartbeats 1600000 in
theorem global_none (a : Int) (h : NoStore w p) : Calls Try.prog 27 #[.pointer p, .int .i64 a] w fun e w' => e = .returned (.tuple #[.agg #[.int .u8 0, .bool false], .agg #[.int .u8 0, .int .u64 0, .int .u64 0], .int .i64 1]) ∧ Kept S0 w w' := by
  have h1 := h.kept (w' := (w.alloc (.cells #[.int .u8 0, .bool false] 64))) ((by repeat (first | exact Kept.refl _ _ | assumption | refine Kept.drew ?_ | refine Kept.alloc ?_ _ | refine Kept.setCell ?_ (.inr (by first | exact Nat.le_refl _ | (simp; done) | omega | (simp; omega))) _)))
  have h2 := h.kept (w' := ((w.alloc (.cells #[.int .u8 0, .bool false] 64)).alloc (.cells #[.int .u8 0, .int .u64 0, .int .u64 0] 40))) ((by repeat (first | exact Kept.refl _ _ | assumption | refine Kept.drew ?_ | refine Kept.alloc ?_ _ | refine Kept.setCell ?_ (.inr (by first | exact Nat.le_refl _ | (simp; done) | omega | (simp; omega))) _)))
  have B0 : Blk ((w.alloc (.cells #[.int .u8 0, .bool false] 64)).alloc (.cells #[.int .u8 0, .int .u64 0, .int .u64 0] 40)) w.heap.size 64 #[.int .u8 0, .bool false] := (Blk.new w _ _).alloc _
  have r00 := B0.cell 0
  have r01 := B0.cell 1
  clear B0
  have B1 : Blk ((w.alloc (.cells #[.int .u8 0, .bool false] 64)).alloc (.cells #[.int .u8 0, .int .u64 0, .int .u64 0] 40)) (w.heap.size + 1) 40 #[.int .u8 0, .int .u64 0, .int .u64 0] := (by have x := Blk.new (w.alloc (.cells #[.int .u8 0, .bool false] 64)) 40 #[.int .u8 0, .int .u64 0, .int .u64 0]; simpa using x)
  have r10 := B1.cell 0
  have r11 := B1.cell 1
  have r12 := B1.cell 2
  clear B1
  clear h
  go_enter Try.func27, Try.ntmps27
  go_wp2_with (go_at_call 35; refine (off_any _ _ (by assumption)).mono ?_; rintro e w' ⟨rfl, rfl⟩)
  exact bodyPost_ret (v := .tuple #[.agg #[.int .u8 0, .bool false], .agg #[.int .u8 0, .int .u64 0, .int .u64 0], .int .i64 1]) (by simp [results, Try.results27, go_sem, r00, r01, r10, r11, r12]) rfl ⟨rfl, (by repeat (first | exact Kept.refl _ _ | assumption | refine Kept.drew ?_ | refine Kept.alloc ?_ _ | refine Kept.setCell ?_ (.inr (by first | exact Nat.le_refl _ | (simp; done) | omega | (simp; omega))) _))⟩
set_option maxRecDepth 100000 in
set_option maxHeartbeats 1600000 in
theorem elem_none (a : Int) (h : NoStore w p) : Calls Try.prog 16 #[.pointer p, .int .i64 a] w fun e w' => e = .returned (.tuple #[.slice none 0 0, .int .i64 1]) ∧ Kept S0 w w' := by
  go_enter Try.func16, Try.ntmps16
  go_wp2_with (go_at_call 35; refine (off_any _ _ (by assumption)).mono ?_; rintro e w' ⟨rfl, rfl⟩)
  go_ret2
  exact ⟨rfl, (by repeat (first | exact Kept.refl _ _ | assumption | refine Kept.drew ?_ | refine Kept.alloc ?_ _ | refine Kept.setCell ?_ (.inr (by first | exact Nat.le_refl _ | (simp; done) | omega | (simp; omega))) _))⟩
set_option maxRecDepth 100000 in
set_option maxHeartbeats 1600000 in
theorem data_none (a : Int) (h : NoStore w p) : Calls Try.prog 18 #[.pointer p, .int .i64 a] w fun e w' => e = .returned (.tuple #[.slice none 0 0, .int .i64 1]) ∧ Kept S0 w w' := by
  go_enter Try.func18, Try.ntmps18
  go_wp2_with (go_at_call 35; refine (off_any _ _ (by assumption)).mono ?_; rintro e w' ⟨rfl, rfl⟩)
  go_ret2
  exact ⟨rfl, (by repeat (first | exact Kept.refl _ _ | assumption | refine Kept.drew ?_ | refine Kept.alloc ?_ _ | refine Kept.setCell ?_ (.inr (by first | exact Nat.le_refl _ | (simp; done) | omega | (simp; omega))) _))⟩
set_option maxRecDepth 100000 in
set_option maxHeartbeats 1600000 in
theorem inst_none (a : Int) (h : NoStore w p) : Calls Try.prog 28 #[.pointer p, .int .i64 a] w fun e w' => e = .returned (.tuple #[.pointer none, .int .i64 1]) ∧ Kept S0 w w' := by
  go_enter Try.func28, Try.ntmps28
  go_wp2_with (go_at_call 35; refine (off_any _ _ (by assumption)).mono ?_; rintro e w' ⟨rfl, rfl⟩)
  go_ret2
  exact ⟨rfl, (by repeat (first | exact Kept.refl _ _ | assumption | refine Kept.drew ?_ | refine Kept.alloc ?_ _ | refine Kept.setCell ?_ (.inr (by first | exact Nat.le_refl _ | (simp; done) | omega | (simp; omega))) _))⟩
set_option maxRecDepth 100000 in
set_option maxHeartbeats 1600000 in
theorem setglobal_none (a : Int) (t : Int) (lo : Int) (hi : Int) (h : NoStore w p) : Calls Try.prog 30 #[.pointer p, .int .i64 a, .agg #[.int .u8 t, .int .u64 lo, .int .u64 hi]] w fun e w' => e = .returned (.int .i64 1) ∧ Kept S0 w w' := by
  have h1 := h.kept (w' := (w.alloc (.cells #[.int .u8 t, .int .u64 lo, .int .u64 hi] 40))) ((by repeat (first | exact Kept.refl _ _ | assumption | refine Kept.drew ?_ | refine Kept.alloc ?_ _ | refine Kept.setCell ?_ (.inr (by first | exact Nat.le_refl _ | (simp; done) | omega | (simp; omega))) _)))
  clear h
  go_enter Try.func30, Try.ntmps30
  go_wp2_with (go_at_call 35; refine (off_any _ _ (by assumption)).mono ?_; rintro e w' ⟨rfl, rfl⟩)
  go_ret
  exact ⟨rfl, (by repeat (first | exact Kept.refl _ _ | assumption | refine Kept.drew ?_ | refine Kept.alloc ?_ _ | refine Kept.setCell ?_ (.inr (by first | exact Nat.le_refl _ | (simp; done) | omega | (simp; omega))) _))⟩
set_option maxRecDepth 100000 in
set_option maxHeartbeats 1600000 in
theorem drop_none (k : Int) (a : Int) (h : NoStore w p) : Calls Try.prog 31 #[.pointer p, .int .u8 k, .int .i64 a] w fun e w' => e = .returned (.int .i64 1) ∧ Kept S0 w w' := by
  go_enter Try.func31, Try.ntmps31
  go_wp2_with (go_at_call 35; refine (off_any _ _ (by assumption)).mono ?_; rintro e w' ⟨rfl, rfl⟩)
  go_ret
  exact ⟨rfl, (by repeat (first | exact Kept.refl _ _ | assumption | refine Kept.drew ?_ | refine Kept.alloc ?_ _ | refine Kept.setCell ?_ (.inr (by first | exact Nat.le_refl _ | (simp; done) | omega | (simp; omega))) _))⟩
set_option maxRecDepth 100000 in
set_option maxHeartbeats 1600000 in
theorem fits_none (ek : Int) (ea : Int) (imp : Array Value) (fpA : Option Addr) (fpn fpc : Nat) (frA : Option Addr) (frn frc : Nat) (h : NoStore w p) : Calls Try.prog 32 #[.pointer p, .agg #[.int .u8 ek, .int .i64 ea], .agg imp, .agg #[.slice fpA fpn fpc, .slice frA frn frc]] w fun e w' => e = .returned (.int .i64 1) ∧ Kept S0 w w' := by
  have h1 := h.kept (w' := (w.alloc (.cells #[.int .u8 ek, .int .i64 ea] 116))) ((by repeat (first | exact Kept.refl _ _ | assumption | refine Kept.drew ?_ | refine Kept.alloc ?_ _ | refine Kept.setCell ?_ (.inr (by first | exact Nat.le_refl _ | (simp; done) | omega | (simp; omega))) _)))
  have h2 := h.kept (w' := ((w.alloc (.cells #[.int .u8 ek, .int .i64 ea] 116)).alloc (.cells imp 118))) ((by repeat (first | exact Kept.refl _ _ | assumption | refine Kept.drew ?_ | refine Kept.alloc ?_ _ | refine Kept.setCell ?_ (.inr (by first | exact Nat.le_refl _ | (simp; done) | omega | (simp; omega))) _)))
  have h3 := h.kept (w' := (((w.alloc (.cells #[.int .u8 ek, .int .i64 ea] 116)).alloc (.cells imp 118)).alloc (.cells #[.slice fpA fpn fpc, .slice frA frn frc] 24))) ((by repeat (first | exact Kept.refl _ _ | assumption | refine Kept.drew ?_ | refine Kept.alloc ?_ _ | refine Kept.setCell ?_ (.inr (by first | exact Nat.le_refl _ | (simp; done) | omega | (simp; omega))) _)))
  clear h
  go_enter Try.func32, Try.ntmps32
  go_wp2_with (go_at_call 35; refine (off_any _ _ (by assumption)).mono ?_; rintro e w' ⟨rfl, rfl⟩)
  go_ret
  exact ⟨rfl, (by repeat (first | exact Kept.refl _ _ | assumption | refine Kept.drew ?_ | refine Kept.alloc ?_ _ | refine Kept.setCell ?_ (.inr (by first | exact Nat.le_refl _ | (simp; done) | omega | (simp; omega))) _))⟩
set_option maxRecDepth 100000 in
set_option maxHeartbeats 1600000 in
theorem sizes_none  (h : NoStore w p) : Calls Try.prog 33 #[.pointer p] w fun e w' => e = .returned (.agg #[.int .i64 0, .int .i64 0, .int .i64 0, .int .i64 0, .int .i64 0, .int .i64 0, .int .i64 0]) ∧ Kept S0 w w' := by
  have h1 := h.kept (w' := (w.alloc (.cells #[.int .i64 0, .int .i64 0, .int .i64 0, .int .i64 0, .int .i64 0, .int .i64 0, .int .i64 0] 120))) ((by repeat (first | exact Kept.refl _ _ | assumption | refine Kept.drew ?_ | refine Kept.alloc ?_ _ | refine Kept.setCell ?_ (.inr (by first | exact Nat.le_refl _ | (simp; done) | omega | (simp; omega))) _)))
  have B0 : Blk (w.alloc (.cells #[.int .i64 0, .int .i64 0, .int .i64 0, .int .i64 0, .int .i64 0, .int .i64 0, .int .i64 0] 120)) w.heap.size 120 #[.int .i64 0, .int .i64 0, .int .i64 0, .int .i64 0, .int .i64 0, .int .i64 0, .int .i64 0] := (Blk.new w _ _)
  have r00 := B0.cell 0
  have r01 := B0.cell 1
  have r02 := B0.cell 2
  have r03 := B0.cell 3
  have r04 := B0.cell 4
  have r05 := B0.cell 5
  have r06 := B0.cell 6
  clear B0
  clear h
  go_enter Try.func33, Try.ntmps33
  go_wp2_with (go_at_call 35; refine (off_any _ _ (by assumption)).mono ?_; rintro e w' ⟨rfl, rfl⟩)
  exact bodyPost_ret (v := .agg #[.int .i64 0, .int .i64 0, .int .i64 0, .int .i64 0, .int .i64 0, .int .i64 0, .int .i64 0]) (by simp [results, Try.results33, go_sem, r00, r01, r02, r03, r04, r05, r06]) rfl ⟨rfl, (by repeat (first | exact Kept.refl _ _ | assumption | refine Kept.drew ?_ | refine Kept.alloc ?_ _ | refine Kept.setCell ?_ (.inr (by first | exact Nat.le_refl _ | (simp; done) | omega | (simp; omega))) _))⟩
theorem host_none (s : ByteArray) (fpA : Option Addr) (fpn fpc : Nat) (frA : Option Addr) (frn frc : Nat) (h : NoStore w p) : Calls Try.prog 29 #[.pointer p, .string s, .agg #[.slice fpA fpn fpc, .slice frA frn frc]] w fun e w' => e = .returned (.tuple #[.int .i64 0, .int .i64 1]) ∧ Kept S0 w w' := by
  have hk : Kept S0 w (w.alloc (.cells #[.slice fpA fpn fpc, .slice frA frn frc] 24)) := (Kept.refl S0 w).alloc _
  have h1 := addfunc_none fpA fpn fpc frA frn frc true s 0 0 (h.kept hk)
  have hb := Blk.new w 24 #[.slice fpA fpn fpc, .slice frA frn frc]
  have c0 := hb.cell 0
  have c1 := hb.cell 1
  clear h hb
  go_enter Try.func29, Try.ntmps29
  go_wp2_with fail
  refine h1.mono ?_
  rintro e w1 ⟨rfl, hk1⟩
  go_wp2_with fail
  go_ret2
  exact ⟨rfl, hk.then0 hk1⟩
set_option maxRecDepth 100000 in
set_option maxHeartbeats 1600000 in
theorem typed_none (h : NoStore w p) : Calls Try.prog 34 #[.pointer p] w fun e w' => e = .returned (.bool false) ∧ Kept S0 w w' := by
  have h1 := h.alloc (.cells #[.pointer p] 27)
  have c0 := (Blk.new w 27 #[.pointer p]).cell 0
  clear h
  go_enter Try.func34, Try.ntmps34
  go_wp2_with (go_at_call 35; refine (off_any _ _ (by assumption)).mono ?_; rintro e w' ⟨rfl, rfl⟩)
  go_ret
  exact ⟨rfl, (by repeat (first | exact Kept.refl _ _ | assumption | refine Kept.drew ?_ | refine Kept.alloc ?_ _ | refine Kept.setCell ?_ (.inr (by first | exact Nat.le_refl _ | (simp; done) | omega | (simp; omega))) _))⟩
end
end Go.Proofs.Ytlnkdnmeikpckaa
