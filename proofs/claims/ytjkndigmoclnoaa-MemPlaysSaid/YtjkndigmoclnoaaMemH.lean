/- Contracts of a memory's Load. No condition. -/
import Derived.Test.YtjkndigmoclnoaaMemF
import Derived.StillTailTactics
import Derived.Test.YtjkndigmoclnoaaWord
namespace Go.Proofs.Ytjkndigmoclnoaa
open Go.RowKit

def wordB (n : Int) : Bool := decide (n = 1 ∨ n = 2 ∨ n = 4 ∨ n = 8 ∨ n = 16)

set_option maxHeartbeats 400000 in
theorem word_any (n : Int) (w : World) : Calls Try.prog 32 #[.int .i64 n] w fun e w' => e = .returned (.bool (wordB n)) ∧ w = w' := by
  by_cases h : n = 1 ∨ n = 2 ∨ n = 4 ∨ n = 8 ∨ n = 16
  · rcases h with rfl | rfl | rfl | rfl | rfl
    all_goals
      go_enter Try.func32, Try.ntmps32
      go_wp2
      go_ret
      exact ⟨rfl, rfl⟩
  · have h1 : (n == 1) = false := beq_eq_false_iff_ne.2 (by omega)
    have h2 : (n == 2) = false := beq_eq_false_iff_ne.2 (by omega)
    have h3 : (n == 4) = false := beq_eq_false_iff_ne.2 (by omega)
    have h4 : (n == 8) = false := beq_eq_false_iff_ne.2 (by omega)
    have h5 : (n == 16) = false := beq_eq_false_iff_ne.2 (by omega)
    have hb := Lib.hid (show wordB n = false by unfold wordB; exact decide_eq_false h)
    clear h
    go_enter Try.func32, Try.ntmps32
    go_wp2
    go_ret
    exact ⟨ret_bool (by rw [hb.out]), rfl⟩

section
variable {w : World} {pb bb N : Nat} {mn mx : Int} {bd : Bool} {f : Nat → UInt8}

set_option maxHeartbeats 400000 in
theorem load_arg (at_ n : Int) (hm : MemAt w pb bb N mn mx bd f) (hn : wordB n = false) :
    Calls Try.prog 20 #[.pointer (some ⟨pb, 0, none⟩), .int .u64 at_, .int .i64 n] w fun e w' => e = .returned (.tuple #[.agg #[.int .u64 0, .int .u64 0], .int .i64 2]) ∧ Kept S0 w w' := by
  have HW := Lib.hid hn
  have hm1 := hm.kept0 ((Kept.refl S0 w).alloc (.cells #[.int .u64 0, .int .u64 0] 47))
  have k0 := hm1.c0
  clear hn
  go_enter Try.func20, Try.ntmps20
  go_wp2_with (first | (go_at_call 29; refine (off_made _ _ (by assumption)).mono ?_; rintro e w' ⟨rfl, rfl⟩) | (go_at_call 32; refine (word_any _ _).mono ?_; rintro e w' ⟨rfl, rfl⟩; rw [HW.out]))
  exact bodyPost_ret (v := .tuple #[.agg #[.int .u64 0, .int .u64 0], .int .i64 2]) (by simp [results, Try.results20, go_sem]) rfl ⟨rfl, (by repeat (first | exact Kept.refl _ _ | assumption | refine Kept.drew ?_ | refine Kept.alloc ?_ _ | refine Kept.setCell ?_ (.inr (by first | exact Nat.le_refl _ | (simp; done) | omega | (simp; omega))) _))⟩

set_option maxHeartbeats 400000 in
theorem load_out (at_ n : Int) (hm : MemAt w pb bb N mn mx bd f) (hN : N ≤ 1048576) (h1 : 0 ≤ at_) (h5 : at_ ≤ 18446744073709551615) (hn : wordB n = true) (ho : inB at_ n N = false) :
    Calls Try.prog 20 #[.pointer (some ⟨pb, 0, none⟩), .int .u64 at_, .int .i64 n] w fun e w' => e = .returned (.tuple #[.agg #[.int .u64 0, .int .u64 0], .int .i64 6]) ∧ Kept S0 w w' := by
  have HW := Lib.hid hn
  have HO := Lib.hid ho
  have hn16 : 0 ≤ n ∧ n ≤ 16 := by unfold wordB at hn; have := of_decide_eq_true hn; omega
  obtain ⟨hn0, hn16⟩ := hn16
  have hu : IntKind.u64.wrap n = n := IntWalk.u64_in _ (by omega)
  have hm1 := hm.kept0 ((Kept.refl S0 w).alloc (.cells #[.int .u64 0, .int .u64 0] 47))
  have k0 := hm1.c0
  have k4 := hm1.c4
  clear hn ho
  go_enter Try.func20, Try.ntmps20
  go_wp2_with (first | (go_at_call 29; refine (off_made _ _ (by assumption)).mono ?_; rintro e w' ⟨rfl, rfl⟩) | (go_at_call 32; refine (word_any _ _).mono ?_; rintro e w' ⟨rfl, rfl⟩; rw [HW.out]) | (go_at_call 30; refine (within_any _ _ _ _ (by omega) (by omega) (by omega) (by omega) (by omega) (by omega)).mono ?_; rintro e w' ⟨rfl, rfl⟩; rw [HO.out]))
  exact bodyPost_ret (v := .tuple #[.agg #[.int .u64 0, .int .u64 0], .int .i64 6]) (by simp [results, Try.results20, go_sem]) rfl ⟨rfl, (by repeat (first | exact Kept.refl _ _ | assumption | refine Kept.drew ?_ | refine Kept.alloc ?_ _ | refine Kept.setCell ?_ (.inr (by first | exact Nat.le_refl _ | (simp; done) | omega | (simp; omega))) _))⟩

structure LoadRel (w wr : World) (f : Nat → UInt8) (a k : Nat) : Prop where
  res : Blk wr w.heap.size 47 #[.int .u64 0, .int .u64 0]
  v : Blk wr (w.heap.size + 1) 47 #[.int .u64 (ldLo f a k : Nat), .int .u64 (ldHi f a k : Nat)]
  kept : Kept S0 w wr

set_option maxHeartbeats 1600000 in
theorem load_in (a n : Nat) (hm : MemAt w pb bb N mn mx bd f) (hN : N ≤ 1048576) (h : a + n ≤ N) (hn : wordB n = true) :
    Calls Try.prog 20 #[.pointer (some ⟨pb, 0, none⟩), .int .u64 (a : Int), .int .i64 (n : Int)] w fun e w' => e = .returned (.tuple #[.agg #[.int .u64 (ldLo f a n : Nat), .int .u64 (ldHi f a n : Nat)], .int .i64 0]) ∧ Kept S0 w w' := by
  have c0 := hm.c0
  have c4 := hm.c4
  have HO := Lib.hid (inB_true h)
  have HW := Lib.hid hn
  have hn16 : n ≤ 16 := by unfold wordB at hn; have := of_decide_eq_true hn; omega
  have hu : IntKind.u64.wrap (n : Int) = (n : Int) := IntWalk.u64_in _ (by omega)
  have hui : IntKind.i64.wrap (a : Int) = (a : Int) := IntWalk.i64_in _ (by omega)
  have hpb := hm.obj.lt
  have hm1 := hm.kept0 ((Kept.refl S0 w).alloc (.cells #[.int .u64 0, .int .u64 0] 47))
  have k0 := hm1.c0
  clear hn
  go_enter Try.func20, Try.ntmps20
  go_wp2_with (first | (go_at_call 29; refine (off_made _ _ (by assumption)).mono ?_; rintro e w' ⟨rfl, rfl⟩) | (go_at_call 30; refine (within_any _ _ _ _ (by omega) (by omega) (by omega) (by omega) (by omega) (by omega)).mono ?_; rintro e w' ⟨rfl, rfl⟩; rw [HO.out]) | (go_at_call 32; refine (word_any _ _).mono ?_; rintro e w' ⟨rfl, rfl⟩; rw [HW.out]))
  go_loopw [33] (fun i wr => ∃ k : Nat, k ≤ n ∧ i = .int .i64 (k : Int) ∧ LoadRel w wr f a k) (fun i _ => n - (intOf i).toNat)
  case atStart => exact ⟨0, by omega, rfl, (Blk.new w _ _).alloc _, Blk.new1 w _ _ _, ((Kept.refl S0 w).alloc _).alloc _⟩
  case round =>
    obtain ⟨k, hk, rfl, hr⟩ := hrel
    have d4 := (hr.kept.cell (p := ⟨pb, 4, none⟩) hpb (fun e => e)).trans c4
    have db := (hr.kept.row hm.row (fun e => e)).cell (i := a + k)
    have v0 := hr.v.cell 0
    have v1 := hr.v.cell 1
    have z0 := hr.v.frozen 0
    have z1 := hr.v.frozen 1
    clear c0 c4 k0
    by_cases hlt : k < n
    · have db := db (by omega)
      obtain ⟨c, hc⟩ : ∃ c : Nat, c = (f (a + k)).toNat := ⟨_, rfl⟩
      rw [← hc] at db
      have hc255 : c < 256 := by rw [hc]; exact UInt8.toNat_lt _
      have ec : IntKind.u64.wrap (c : Int) = (c : Int) := IntWalk.u64_in _ (by omega)
      by_cases h8 : k < 8
      · have e8 : IntKind.i64.wrap (8 * (k : Int)) = 8 * (k : Int) := IntWalk.i64_in _ (by omega)
        have p8 : 0 ≤ 8 * (k : Int) := by omega
        have st := ldLo_step hc h8
        clear hc
        go_wp2
        go_still_tail 8, (by kernel_rfl)
        change wpList _ _ _ _ _ wr.drew
        go_wp2
        go_roundw
        case rel => exact ⟨k + 1, by omega, by go_num, (hr.res.drew.far (p := ⟨w.heap.size + 1, 0, none⟩) (by simp) _), by rw [ldHi_same f a h8]; exact hr.v.drew.set_ 0 _, (hr.kept.drew.setCell (p := ⟨w.heap.size + 1, 0, none⟩) (.inr (by simp)) _)⟩
        case measure => simp [intOf]; omega
      · have e7 : IntKind.i64.wrap ((k : Int) - 8) = (k : Int) - 8 := IntWalk.i64_in _ (by omega)
        have e8 : IntKind.i64.wrap (8 * ((k : Int) - 8)) = 8 * ((k : Int) - 8) := IntWalk.i64_in _ (by omega)
        have p8 : 0 ≤ 8 * ((k : Int) - 8) := by omega
        have st := ldHi_step hc (by omega : 8 ≤ k) (by omega)
        clear hc
        go_wp2
        go_still_tail 9, (by kernel_rfl)
        change wpList _ _ _ _ _ wr.drew
        go_wp2
        go_roundw
        case rel => exact ⟨k + 1, by omega, by go_num, (hr.res.drew.far (p := ⟨w.heap.size + 1, 1, none⟩) (by simp) _), by rw [ldLo_same f a (by omega : 8 ≤ k)]; exact hr.v.drew.set_ 1 _, (hr.kept.drew.setCell (p := ⟨w.heap.size + 1, 1, none⟩) (.inr (by simp)) _)⟩
        case measure => simp [intOf]; omega
    · obtain rfl : k = n := by omega
      have r0 := hr.res.cell 0
      have r1 := hr.res.cell 1
      have y0 := hr.res.frozen 0
      have y1 := hr.res.frozen 1
      have hkk := hr.kept
      go_wp2
      exact bodyPost_ret (v := .tuple #[.agg #[.int .u64 (ldLo f a k : Nat), .int .u64 (ldHi f a k : Nat)], .int .i64 0]) (by simp [results, Try.results20, go_sem, r0, r1]) rfl ⟨rfl, (by repeat (first | exact Kept.refl _ _ | assumption | refine Kept.drew ?_ | refine Kept.alloc ?_ _ | refine Kept.setCell ?_ (.inr (by first | exact Nat.le_refl _ | (simp; done) | omega | (simp; omega))) _))⟩
end
end Go.Proofs.Ytjkndigmoclnoaa
