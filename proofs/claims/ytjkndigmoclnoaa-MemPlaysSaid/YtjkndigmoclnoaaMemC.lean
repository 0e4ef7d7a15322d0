/- Contracts of a memory's Write, Copy, Init. No condition. -/
import Derived.Test.YtjkndigmoclnoaaMemA
import Derived.Test.YtjkndigmoclnoaaClone
import Derived.StillTailTactics
namespace Go.Proofs.Ytjkndigmoclnoaa
open Go.RowKit

def putF (f : Nat → UInt8) (a n : Nat) (v : Nat → UInt8) : Nat → UInt8 := fun i => if a ≤ i ∧ i < a + n then v (i - a) else f i

theorem put_row {w : World} {bb N a m : Nat} {f v : Nat → UInt8} (h : w.rowIs bb 5 N (overlay a m (byteV v) (byteV f))) : w.rowIs bb 5 N (fun i => .int .u8 ((putF f a m v i).toNat : Int)) :=
  h.congr fun i _ => by
    unfold overlay putF byteV
    split <;> rfl

theorem Try.size5 : (Try.prog.info? 5).map (·.size) = some 1 := by kernel_rfl

section
variable {w : World} {pb bb N : Nat} {mn mx : Int} {bd : Bool} {f : Nat → UInt8}

theorem Copied.drewL {w w' : World} {bb t N off m : Nat} {v g : Nat → Value} (h : Copied w.drew w' bb t N off m v g) : Copied w w' bb t N off m v g := ⟨h.row, h.kept.os, h.kept.tape, h.kept.output, h.kept.size, h.kept.block⟩

theorem MemAt.put {w' : World} {a n : Nat} {v : Nat → UInt8} (h : MemAt w pb bb N mn mx bd f) (hcp : Copied w w' bb 5 N a n (byteV v) (byteV f)) : MemAt w' pb bb N mn mx bd (putF f a n v) :=
  ⟨hcp.kept.blk h.obj (fun e => h.ne (Eq.symm e)), put_row hcp.row⟩

set_option maxHeartbeats 400000 in
theorem write_out (at_ : Int) (A : Option Addr) (n c : Nat) (hm : MemAt w pb bb N mn mx bd f) (hN : N ≤ 1048576) (h1 : 0 ≤ at_) (h5 : at_ ≤ 18446744073709551615) (h6 : n ≤ 140737488351232) (ho : inB at_ n N = false) :
    Calls Try.prog 16 #[.pointer (some ⟨pb, 0, none⟩), .int .u64 at_, .slice A n c] w fun e w' => e = .returned (.int .i64 6) ∧ w = w' := by
  have c0 := hm.c0
  have c4 := hm.c4
  have HO := Lib.hid ho; clear ho
  go_enter Try.func16, Try.ntmps16
  go_wp2_with (first | (go_at_call 29; refine (off_made _ _ (by assumption)).mono ?_; rintro e w' ⟨rfl, rfl⟩) | (go_at_call 30; refine (within_any _ _ _ _ (by omega) (by omega) (by omega) (by omega) (by omega) (by omega)).mono ?_; rintro e w' ⟨rfl, rfl⟩; rw [HO.out]))
  go_ret
  exact ⟨rfl, rfl⟩

set_option maxHeartbeats 400000 in
theorem write_in (a : Nat) (A : Option Addr) (n c : Nat) (v : Nat → UInt8) (hm : MemAt w pb bb N mn mx bd f) (hN : N ≤ 1048576) (hA : Sl w A n (byteV v)) (h : a + n ≤ N) :
    Calls Try.prog 16 #[.pointer (some ⟨pb, 0, none⟩), .int .u64 (a : Int), .slice A n c] w fun e w' => e = .returned (.int .i64 0) ∧ MemAt w' pb bb N mn mx bd (putF f a n v) ∧ Kept (S1 bb) w w' := by
  have c0 := hm.c0
  have c4 := hm.c4
  have HO := Lib.hid (show inB a n N = true by unfold inB; exact decide_eq_true (by omega))
  by_cases hNa : N = a
  · subst hNa
    have HN := Lib.hid (show n = 0 by omega)
    have hn5 : n ≤ 5 := by omega
    clear h
    go_enter Try.func16, Try.ntmps16
    go_wp2_with (first | (go_at_call 29; refine (off_made _ _ (by assumption)).mono ?_; rintro e w' ⟨rfl, rfl⟩) | (go_at_call 30; refine (within_any _ _ _ _ (by omega) (by omega) (by omega) (by omega) (by omega) (by omega)).mono ?_; rintro e w' ⟨rfl, rfl⟩; rw [HO.out]) | ((with_reducible refine gate (N := 29) rfl ?_); refine wpList_copy_rows rfl (.tmp 27) (.tmp 28) 36 36 rfl 5 Try.underlying36 Try.size5 _ A _ _ n c rfl rfl bb 5 N N n (byteV f) (byteV v) (by rw [HN.out]; rfl) hm.row (fun h => absurd h (by rw [HN.out]; omega)) hA (.inl HN.out) (fun _ _ => rfl) ?_))
    intro w' hcp
    go_wp2
    go_ret
    exact ⟨rfl, hm.put hcp, hcp.kept⟩
  · go_enter Try.func16, Try.ntmps16
    go_wp2_with (first | (go_at_call 29; refine (off_made _ _ (by assumption)).mono ?_; rintro e w' ⟨rfl, rfl⟩) | (go_at_call 30; refine (within_any _ _ _ _ (by omega) (by omega) (by omega) (by omega) (by omega) (by omega)).mono ?_; rintro e w' ⟨rfl, rfl⟩; rw [HO.out]) | ((with_reducible refine gate (N := 29) rfl ?_); refine wpList_copy_rows rfl (.tmp 27) (.tmp 28) 36 36 rfl 5 Try.underlying36 Try.size5 _ A _ _ n c rfl rfl bb 5 N a n (byteV f) (byteV v) (Nat.min_eq_left (by omega)) hm.row (fun _ => rfl) hA (.inr h) (fun _ _ => rfl) ?_))
    intro w' hcp
    go_wp2
    go_ret
    exact ⟨rfl, hm.put hcp, hcp.kept⟩

theorem inB_true {a n N : Nat} (h : a + n ≤ N) : inB a n N = true := by unfold inB; exact decide_eq_true (by omega)

set_option maxHeartbeats 400000 in
theorem copy_out (x y n : Int) (hm : MemAt w pb bb N mn mx bd f) (hN : N ≤ 1048576) (h1 : 0 ≤ x) (h2 : 0 ≤ y) (h3 : 0 ≤ n) (h5 : x ≤ 18446744073709551615) (h6 : y ≤ 18446744073709551615) (h7 : n ≤ 18446744073709551615) (ho : inB x n N = false ∨ inB y n N = false) :
    Calls Try.prog 17 #[.pointer (some ⟨pb, 0, none⟩), .int .u64 x, .int .u64 y, .int .u64 n] w fun e w' => e = .returned (.int .i64 6) ∧ w = w' := by
  have c0 := hm.c0
  have c4 := hm.c4
  by_cases hx : inB x n N = false
  · have HO := Lib.hid hx
    clear hx ho
    go_enter Try.func17, Try.ntmps17
    go_wp2_with (first | (go_at_call 29; refine (off_made _ _ (by assumption)).mono ?_; rintro e w' ⟨rfl, rfl⟩) | (go_at_call 30; refine (within_any _ _ _ _ (by omega) (by omega) (by omega) (by omega) (by omega) (by omega)).mono ?_; rintro e w' ⟨rfl, rfl⟩; rw [HO.out]))
    go_ret
    exact ⟨rfl, rfl⟩
  · have HX := Lib.hid (show inB x n N = true by simpa using hx)
    have HO := Lib.hid (ho.resolve_left hx)
    clear hx ho
    go_enter Try.func17, Try.ntmps17
    go_wp2_with (first | (go_at_call 29; refine (off_made _ _ (by assumption)).mono ?_; rintro e w' ⟨rfl, rfl⟩) | (go_at_call 30; refine (within_any _ _ _ _ (by omega) (by omega) (by omega) (by omega) (by omega) (by omega)).mono ?_; rintro e w' ⟨rfl, rfl⟩; first | rw [HX.out] | rw [HO.out]))
    go_ret
    exact ⟨rfl, rfl⟩

set_option maxHeartbeats 800000 in
theorem copy_in (x y n : Nat) (hm : MemAt w pb bb N mn mx bd f) (hN : N ≤ 1048576) (hx : x + n ≤ N) (hy : y + n ≤ N) :
    Calls Try.prog 17 #[.pointer (some ⟨pb, 0, none⟩), .int .u64 (x : Int), .int .u64 (y : Int), .int .u64 (n : Int)] w fun e w' => e = .returned (.int .i64 0) ∧ MemAt w' pb bb N mn mx bd (putF f x n (fun i => f (y + i))) ∧ Kept (S1 bb) w w' := by
  have c0 := hm.c0
  have c4 := hm.c4
  have HX := Lib.hid (inB_true hx)
  have HY := Lib.hid (inB_true hy)
  have e1 : IntKind.u64.wrap ((x : Int) + (n : Int)) = (x : Int) + (n : Int) := IntWalk.u64_in _ (by omega)
  have e2 : IntKind.u64.wrap ((y : Int) + (n : Int)) = (y : Int) + (n : Int) := IntWalk.u64_in _ (by omega)
  obtain ⟨D1, r1, d1⟩ := run_cut (P := Try.prog) 36 5 Try.underlying36 Try.size5 (some ⟨bb, 0, none⟩) N N .u64 .u64 (x : Int) ((x : Int) + (n : Int)) x n rfl (by omega) hx
  obtain ⟨D2, r2, d2⟩ := run_cut (P := Try.prog) 36 5 Try.underlying36 Try.size5 (some ⟨bb, 0, none⟩) N N .u64 .u64 (y : Int) ((y : Int) + (n : Int)) y n rfl (by omega) hy
  have HD1 := Lib.hid d1
  have HD2 := Lib.hid d2
  clear d1 d2
  go_enter Try.func17, Try.ntmps17
  go_wp2_with (first | (go_at_call 29; refine (off_made _ _ (by assumption)).mono ?_; rintro e w' ⟨rfl, rfl⟩) | (go_at_call 30; refine (within_any _ _ _ _ (by omega) (by omega) (by omega) (by omega) (by omega) (by omega)).mono ?_; rintro e w' ⟨rfl, rfl⟩; first | rw [HX.out] | rw [HY.out]))
  go_still_tail 18, (by kernel_rfl)
  change wpList _ _ _ _ _ w.drew
  refine wpList_copy_rows rfl (.tmp 41) (.tmp 50) 36 36 rfl 5 Try.underlying36 Try.size5 D1 D2 _ _ _ _ rfl rfl bb 5 N x n (byteV f) (byteV (fun i => f (y + i))) (Nat.min_self _) (World.rowIs.drew hm.row) (fun hp => by rw [HD1.out, if_neg (by omega)]; simp [Addr.add_lit]) (by rw [HD2.out]; exact (Sl.of_row hm.row (Nat.le_refl N)).cut hy (Nat.le_refl _)) (.inr hx) (fun _ _ => rfl) ?_
  intro w' hcp
  go_wp2
  go_ret
  exact ⟨rfl, hm.put hcp.drewL, hcp.drewL.kept⟩
end
end Go.Proofs.Ytjkndigmoclnoaa
