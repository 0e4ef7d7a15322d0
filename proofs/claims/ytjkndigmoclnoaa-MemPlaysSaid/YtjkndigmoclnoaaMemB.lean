/- Contracts of a memory's Fill. No condition. -/
import Derived.Test.YtjkndigmoclnoaaMemA
namespace Go.Proofs.Ytjkndigmoclnoaa
open Go.RowKit

def fillF (f : Nat → UInt8) (a n : Nat) (c : UInt8) : Nat → UInt8 := fun i => if a ≤ i ∧ i < a + n then c else f i

theorem fillF_zero (f : Nat → UInt8) (a : Nat) (c : UInt8) : fillF f a 0 c = f := by
  funext i; unfold fillF; rw [if_neg (by omega)]

theorem fill_row {w : World} {bb N a k : Nat} {f : Nat → UInt8} {c : UInt8} (h : w.rowIs bb 5 N (fun i => .int .u8 ((fillF f a k c i).toNat : Int))) :
    (w.setCell ⟨bb, a + k, none⟩ (.int .u8 (c.toNat : Int))).rowIs bb 5 N (fun i => .int .u8 ((fillF f a (k + 1) c i).toNat : Int)) :=
  (h.set (a + k) _).congr fun i _ => by
    unfold fillF
    by_cases e : i = a + k
    · subst e; rw [if_pos rfl, if_pos (by omega)]
    · rw [if_neg e]
      by_cases e2 : a ≤ i ∧ i < a + k
      · rw [if_pos e2, if_pos (by omega)]
      · rw [if_neg e2, if_neg (by omega)]

section
variable {w : World} {pb bb N : Nat} {mn mx : Int} {bd : Bool} {f : Nat → UInt8}

set_option maxHeartbeats 400000 in
theorem fill_out (at_ n : Int) (c : UInt8) (hm : MemAt w pb bb N mn mx bd f) (hN : N ≤ 1048576) (h1 : 0 ≤ at_) (h2 : 0 ≤ n) (h5 : at_ ≤ 18446744073709551615) (h6 : n ≤ 18446744073709551615) (ho : inB at_ n N = false) :
    Calls Try.prog 11 #[.pointer (some ⟨pb, 0, none⟩), .int .u64 at_, .int .u8 (c.toNat : Int), .int .u64 n] w fun e w' => e = .returned (.int .i64 6) ∧ w = w' := by
  have c0 := hm.c0
  have c4 := hm.c4
  have HO := Lib.hid ho; clear ho
  go_enter Try.func11, Try.ntmps11
  go_wp2_with (first | (go_at_call 29; refine (off_made _ _ (by assumption)).mono ?_; rintro e w' ⟨rfl, rfl⟩) | (go_at_call 30; refine (within_any _ _ _ _ (by omega) (by omega) (by omega) (by omega) (by omega) (by omega)).mono ?_; rintro e w' ⟨rfl, rfl⟩; rw [HO.out]))
  go_ret
  exact ⟨rfl, rfl⟩

set_option maxHeartbeats 400000 in
theorem fill_in (a n : Nat) (c : UInt8) (hm : MemAt w pb bb N mn mx bd f) (hN : N ≤ 1048576) (h : a + n ≤ N) :
    Calls Try.prog 11 #[.pointer (some ⟨pb, 0, none⟩), .int .u64 (a : Int), .int .u8 (c.toNat : Int), .int .u64 (n : Int)] w fun e w' => e = .returned (.int .i64 0) ∧ MemAt w' pb bb N mn mx bd (fillF f a n c) ∧ Kept (S1 bb) w w' := by
  have c0 := hm.c0
  have c4 := hm.c4
  have ho : inB a n N = true := by unfold inB; exact decide_eq_true (by omega)
  have HO := Lib.hid ho; clear ho
  have HM := Lib.hid hm
  have hne := hm.ne
  clear hm
  go_enter Try.func11, Try.ntmps11
  go_wp2_with (first | (go_at_call 29; refine (off_made _ _ (by assumption)).mono ?_; rintro e w' ⟨rfl, rfl⟩) | (go_at_call 30; refine (within_any _ _ _ _ (by omega) (by omega) (by omega) (by omega) (by omega) (by omega)).mono ?_; rintro e w' ⟨rfl, rfl⟩; rw [HO.out]))
  go_loopw [9] (fun i wr => ∃ k : Nat, k ≤ n ∧ i = .int .u64 ((a + k : Nat) : Int) ∧ wr.rowIs bb 5 N (fun i => .int .u8 ((fillF f a k c i).toNat : Int)) ∧ Kept (S1 bb) w wr) (fun i _ => a + n - (intOf i).toNat)
  case atStart => exact ⟨0, by omega, rfl, by rw [fillF_zero]; exact HM.out.row, Kept.refl _ _⟩
  case round =>
    obtain ⟨k, hk, rfl, hrow, hkept⟩ := hrel
    have d4 := (hkept.cell (p := ⟨pb, 4, none⟩) HM.out.obj.lt (fun e => hne (Eq.symm e))).trans c4
    clear c0 c4
    by_cases hlt : k < n
    · have hc := hrow.cell (i := a + k) (by omega)
      have hf := hrow.frozen (a + k)
      have hr2 := Lib.hid (fill_row hrow)
      have hk2 := Lib.hid (hkept.setCell (p := ⟨bb, a + k, none⟩) (.inl rfl) (.int .u8 (c.toNat : Int)))
      clear hrow hkept
      go_wp2
      go_roundw
      case rel => exact ⟨k + 1, by omega, by go_num, hr2.out, hk2.out⟩
      case measure => simp [intOf]; omega
    · obtain rfl : k = n := by omega
      have hr2 := Lib.hid hrow
      have hk2 := Lib.hid hkept
      clear hrow hkept
      go_wp2
      go_ret
      exact ⟨rfl, ⟨hk2.out.blk HM.out.obj (fun e => hne (Eq.symm e)), hr2.out⟩, hk2.out⟩
end
end Go.Proofs.Ytjkndigmoclnoaa
