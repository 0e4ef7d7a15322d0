/- Contracts of a memory's Store. No condition. -/
import Derived.Test.YtjkndigmoclnoaaMemH
namespace Go.Proofs.Ytjkndigmoclnoaa
open Go.RowKit

section
variable {w : World} {pb bb N : Nat} {mn mx : Int} {bd : Bool} {f : Nat → UInt8}

set_option maxHeartbeats 400000 in
theorem store_arg (at_ n lo hi : Int) (hm : MemAt w pb bb N mn mx bd f) (hn : wordB n = false) :
    Calls Try.prog 19 #[.pointer (some ⟨pb, 0, none⟩), .int .u64 at_, .int .i64 n, .agg #[.int .u64 lo, .int .u64 hi]] w fun e w' => e = .returned (.int .i64 2) ∧ Kept S0 w w' := by
  have HW := Lib.hid hn
  have hm1 := hm.kept0 ((Kept.refl S0 w).alloc (.cells #[.int .u64 lo, .int .u64 hi] 47))
  have k0 := hm1.c0
  clear hn
  go_enter Try.func19, Try.ntmps19
  go_wp2_with (first | (go_at_call 29; refine (off_made _ _ (by assumption)).mono ?_; rintro e w' ⟨rfl, rfl⟩) | (go_at_call 32; refine (word_any _ _).mono ?_; rintro e w' ⟨rfl, rfl⟩; rw [HW.out]))
  go_ret
  exact ⟨rfl, (by repeat (first | exact Kept.refl _ _ | assumption | refine Kept.drew ?_ | refine Kept.alloc ?_ _ | refine Kept.setCell ?_ (.inr (by first | exact Nat.le_refl _ | (simp; done) | omega | (simp; omega))) _))⟩

set_option maxHeartbeats 400000 in
theorem store_out (at_ n lo hi : Int) (hm : MemAt w pb bb N mn mx bd f) (hN : N ≤ 1048576) (h1 : 0 ≤ at_) (h5 : at_ ≤ 18446744073709551615) (hn : wordB n = true) (ho : inB at_ n N = false) :
    Calls Try.prog 19 #[.pointer (some ⟨pb, 0, none⟩), .int .u64 at_, .int .i64 n, .agg #[.int .u64 lo, .int .u64 hi]] w fun e w' => e = .returned (.int .i64 6) ∧ Kept S0 w w' := by
  have HW := Lib.hid hn
  have HO := Lib.hid ho
  have hn16 : 0 ≤ n ∧ n ≤ 16 := by unfold wordB at hn; have := of_decide_eq_true hn; omega
  obtain ⟨hn0, hn16⟩ := hn16
  have hu : IntKind.u64.wrap n = n := IntWalk.u64_in _ (by omega)
  have hm1 := hm.kept0 ((Kept.refl S0 w).alloc (.cells #[.int .u64 lo, .int .u64 hi] 47))
  have k0 := hm1.c0
  have k4 := hm1.c4
  clear hn ho
  go_enter Try.func19, Try.ntmps19
  go_wp2_with (first | (go_at_call 29; refine (off_made _ _ (by assumption)).mono ?_; rintro e w' ⟨rfl, rfl⟩) | (go_at_call 32; refine (word_any _ _).mono ?_; rintro e w' ⟨rfl, rfl⟩; rw [HW.out]) | (go_at_call 30; refine (within_any _ _ _ _ (by omega) (by omega) (by omega) (by omega) (by omega) (by omega)).mono ?_; rintro e w' ⟨rfl, rfl⟩; rw [HO.out]))
  go_ret
  exact ⟨rfl, (by repeat (first | exact Kept.refl _ _ | assumption | refine Kept.drew ?_ | refine Kept.alloc ?_ _ | refine Kept.setCell ?_ (.inr (by first | exact Nat.le_refl _ | (simp; done) | omega | (simp; omega))) _))⟩

theorem and7 (k : Nat) (hk : k < 16) : bits BinOp.and IntKind.i64 (k : Int) 7 = ((k % 8 : Nat) : Int) := by
  match k, hk with
  | 0, _ => decide
  | 1, _ => decide
  | 2, _ => decide
  | 3, _ => decide
  | 4, _ => decide
  | 5, _ => decide
  | 6, _ => decide
  | 7, _ => decide
  | 8, _ => decide
  | 9, _ => decide
  | 10, _ => decide
  | 11, _ => decide
  | 12, _ => decide
  | 13, _ => decide
  | 14, _ => decide
  | 15, _ => decide
  | k + 16, h => exact absurd h (by omega)

def byteOf (lo hi j : Nat) : UInt8 := UInt8.ofNat (if j < 8 then lo / 256 ^ j else hi / 256 ^ (j - 8))
def storeF (f : Nat → UInt8) (a k lo hi : Nat) : Nat → UInt8 := fun i => if a ≤ i ∧ i < a + k then byteOf lo hi (i - a) else f i

theorem byteOf_lo {lo hi k q : Nat} (hq : q = k % 8) (hk : k < 8) : (lo : Int) / 2 ^ (8 * q) % 256 = ((byteOf lo hi k).toNat : Int) := by
  have e : q = k := by omega
  subst e
  unfold byteOf
  rw [if_pos hk, pow256, UInt8.toNat_ofNat']
  simp
theorem byteOf_hi {lo hi k : Nat} (hk : 8 ≤ k) : (hi : Int) / 2 ^ (8 * (k - 8)) % 256 = ((byteOf lo hi k).toNat : Int) := by
  unfold byteOf
  rw [if_neg (by omega), pow256, UInt8.toNat_ofNat']
  simp

structure StoreRel (w wr : World) (bb N : Nat) (f : Nat → UInt8) (a k lo hi : Nat) : Prop where
  v : Blk wr w.heap.size 47 #[.int .u64 (lo : Nat), .int .u64 (hi : Nat)]
  row : wr.rowIs bb 5 N (byteV (storeF f a k lo hi))
  kept : Kept (S1 bb) w wr

theorem store_row {w : World} {bb N a k lo hi : Nat} {f : Nat → UInt8} (h : w.rowIs bb 5 N (byteV (storeF f a k lo hi))) :
    (w.setCell ⟨bb, a + k, none⟩ (.int .u8 ((byteOf lo hi k).toNat : Int))).rowIs bb 5 N (byteV (storeF f a (k + 1) lo hi)) :=
  (h.set (a + k) _).congr fun i _ => by
    show (if i = a + k then _ else Value.int .u8 ((if a ≤ i ∧ i < a + k then byteOf lo hi (i - a) else f i).toNat : Int)) = Value.int .u8 ((if a ≤ i ∧ i < a + (k + 1) then byteOf lo hi (i - a) else f i).toNat : Int)
    by_cases e : i = a + k
    · subst e; rw [if_pos rfl, if_pos (by omega), show a + k - a = k by omega]
    · rw [if_neg e]
      by_cases e2 : a ≤ i ∧ i < a + k
      · rw [if_pos e2, if_pos (by omega)]
      · rw [if_neg e2, if_neg (by omega)]

set_option maxHeartbeats 1600000 in
theorem store_in (a n lo hi : Nat) (hm : MemAt w pb bb N mn mx bd f) (hN : N ≤ 1048576) (h : a + n ≤ N) (hn : wordB n = true) :
    Calls Try.prog 19 #[.pointer (some ⟨pb, 0, none⟩), .int .u64 (a : Int), .int .i64 (n : Int), .agg #[.int .u64 (lo : Int), .int .u64 (hi : Int)]] w fun e w' => e = .returned (.int .i64 0) ∧ MemAt w' pb bb N mn mx bd (storeF f a n lo hi) ∧ Kept (S1 bb) w w' := by
  have c0 := hm.c0
  have c4 := hm.c4
  have HO := Lib.hid (inB_true h)
  have HW := Lib.hid hn
  have hn16 : n ≤ 16 := by unfold wordB at hn; have := of_decide_eq_true hn; omega
  have hu : IntKind.u64.wrap (n : Int) = (n : Int) := IntWalk.u64_in _ (by omega)
  have hui : IntKind.i64.wrap (a : Int) = (a : Int) := IntWalk.i64_in _ (by omega)
  have hpb := hm.obj.lt
  have hbb := hm.row.lt
  have hne := hm.ne
  have hm1 := hm.kept0 ((Kept.refl S0 w).alloc (.cells #[.int .u64 (lo : Int), .int .u64 (hi : Int)] 47))
  have k0 := hm1.c0
  have k4 := hm1.c4
  clear hn
  go_enter Try.func19, Try.ntmps19
  go_wp2_with (first | (go_at_call 29; refine (off_made _ _ (by assumption)).mono ?_; rintro e w' ⟨rfl, rfl⟩) | (go_at_call 30; refine (within_any _ _ _ _ (by omega) (by omega) (by omega) (by omega) (by omega) (by omega)).mono ?_; rintro e w' ⟨rfl, rfl⟩; rw [HO.out]) | (go_at_call 32; refine (word_any _ _).mono ?_; rintro e w' ⟨rfl, rfl⟩; rw [HW.out]))
  go_loopw [30] (fun i wr => ∃ k : Nat, k ≤ n ∧ i = .int .i64 (k : Int) ∧ StoreRel w wr bb N f a k lo hi) (fun i _ => n - (intOf i).toNat)
  case atStart => exact ⟨0, by omega, rfl, Blk.new w _ _, (hm.row.alloc _).congr (fun i _ => by show Value.int .u8 ((f i).toNat : Int) = Value.int .u8 ((if a ≤ i ∧ i < a + 0 then byteOf lo hi (i - a) else f i).toNat : Int); rw [if_neg (by omega)]), ((Kept.refl _ w).alloc _)⟩
  case round =>
    obtain ⟨k, hk, rfl, hr⟩ := hrel
    have d4 := (hr.kept.cell (p := ⟨pb, 4, none⟩) hpb (fun e => hne (Eq.symm e))).trans c4
    have db := hr.row.cell (i := a + k)
    have df := hr.row.frozen (a + k)
    have v0 := hr.v.cell 0
    have v1 := hr.v.cell 1
    clear c0 c4 k0 k4
    by_cases hlt : k < n
    · have db := db (by omega)
      obtain ⟨q, hq⟩ : ∃ q : Nat, q = k % 8 := ⟨_, rfl⟩
      have hq8 : q < 8 := by omega
      have m7 : bits BinOp.and IntKind.i64 (k : Int) 7 = (q : Int) := by rw [and7 k (by omega), hq]
      have HQ := Lib.hid hq
      clear hq
      by_cases h8 : k < 8
      · go_wp2
        go_roundw
        case rel => exact ⟨k + 1, by omega, by go_num, hr.v.far (p := ⟨bb, a + k, none⟩) (by simp; omega) _, by rw [byteOf_lo (hi := hi) HQ.out h8]; exact store_row hr.row, hr.kept.setCell (p := ⟨bb, a + k, none⟩) (.inl rfl) _⟩
        case measure => simp [intOf]; omega
      · have e7 : IntKind.i64.wrap ((k : Int) - 8) = (k : Int) - 8 := IntWalk.i64_in _ (by omega)
        have e8 : IntKind.i64.wrap (8 * ((k : Int) - 8)) = 8 * ((k : Int) - 8) := IntWalk.i64_in _ (by omega)
        have p8 : 0 ≤ 8 * ((k : Int) - 8) := by omega
        have t8 : (8 * ((k : Int) - 8)).toNat = 8 * (k - 8) := by omega
        go_wp2
        go_roundw
        case rel => exact ⟨k + 1, by omega, by go_num, hr.v.far (p := ⟨bb, a + k, none⟩) (by simp; omega) _, by rw [byteOf_hi (lo := lo) (by omega : 8 ≤ k)]; exact store_row hr.row, hr.kept.setCell (p := ⟨bb, a + k, none⟩) (.inl rfl) _⟩
        case measure => simp [intOf]; omega
    · obtain rfl : k = n := by omega
      go_wp2
      go_ret
      exact ⟨rfl, ⟨hr.kept.blk hm.obj (fun e => hne (Eq.symm e)), hr.row⟩, hr.kept⟩
end
end Go.Proofs.Ytjkndigmoclnoaa
