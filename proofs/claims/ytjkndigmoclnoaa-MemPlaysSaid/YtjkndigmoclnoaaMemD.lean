/- Contracts of a memory's Init. No condition. -/
import Derived.Test.YtjkndigmoclnoaaMemC
namespace Go.Proofs.Ytjkndigmoclnoaa
open Go.RowKit

section
variable {w : World} {pb bb N : Nat} {mn mx : Int} {bd : Bool} {f : Nat → UInt8}

set_option maxHeartbeats 400000 in
theorem init_out (x y n : Int) (A : Option Addr) (l c : Nat) (hl : l ≤ 140737488351232) (hm : MemAt w pb bb N mn mx bd f) (hN : N ≤ 1048576) (h1 : 0 ≤ x) (h2 : 0 ≤ y) (h3 : 0 ≤ n) (h5 : x ≤ 18446744073709551615) (h6 : y ≤ 18446744073709551615) (h7 : n ≤ 18446744073709551615) (ho : inB x n N = false ∨ inB y n l = false) :
    Calls Try.prog 22 #[.pointer (some ⟨pb, 0, none⟩), .int .u64 x, .slice A l c, .int .u64 y, .int .u64 n] w fun e w' => e = .returned (.int .i64 6) ∧ w = w' := by
  have c0 := hm.c0
  have c4 := hm.c4
  by_cases hx : inB x n N = false
  · have HX := Lib.hid hx
    have HY := HX
    clear hx ho
    go_enter Try.func22, Try.ntmps22
    go_wp2_with (first | (go_at_call 29; refine (off_made _ _ (by assumption)).mono ?_; rintro e w' ⟨rfl, rfl⟩) | (go_at_call 30; refine (within_any _ _ _ _ (by omega) (by omega) (by omega) (by omega) (by omega) (by omega)).mono ?_; rintro e w' ⟨rfl, rfl⟩; first | rw [HX.out] | rw [HY.out]))
    go_ret
    exact ⟨rfl, rfl⟩
  · have HX := Lib.hid (show inB x n N = true by simpa using hx)
    have HY := Lib.hid (ho.resolve_left hx)
    clear hx ho
    go_enter Try.func22, Try.ntmps22
    go_wp2_with (first | (go_at_call 29; refine (off_made _ _ (by assumption)).mono ?_; rintro e w' ⟨rfl, rfl⟩) | (go_at_call 30; refine (within_any _ _ _ _ (by omega) (by omega) (by omega) (by omega) (by omega) (by omega)).mono ?_; rintro e w' ⟨rfl, rfl⟩; first | rw [HX.out] | rw [HY.out]))
    go_ret
    exact ⟨rfl, rfl⟩

set_option maxHeartbeats 800000 in
theorem init_in (x y n : Nat) (A : Option Addr) (l c : Nat) (v : Nat → UInt8) (hl : l ≤ 140737488351232) (hlc : l ≤ c) (hA : Sl w A l (byteV v)) (hm : MemAt w pb bb N mn mx bd f) (hN : N ≤ 1048576) (hx : x + n ≤ N) (hy : y + n ≤ l) :
    Calls Try.prog 22 #[.pointer (some ⟨pb, 0, none⟩), .int .u64 (x : Int), .slice A l c, .int .u64 (y : Int), .int .u64 (n : Int)] w fun e w' => e = .returned (.int .i64 0) ∧ MemAt w' pb bb N mn mx bd (putF f x n (fun i => v (y + i))) ∧ Kept (S1 bb) w w' := by
  have c0 := hm.c0
  have c4 := hm.c4
  have HX := Lib.hid (inB_true hx)
  have HY := Lib.hid (inB_true hy)
  have e1 : IntKind.u64.wrap ((x : Int) + (n : Int)) = (x : Int) + (n : Int) := IntWalk.u64_in _ (by omega)
  have e2 : IntKind.u64.wrap ((y : Int) + (n : Int)) = (y : Int) + (n : Int) := IntWalk.u64_in _ (by omega)
  obtain ⟨D1, r1, d1⟩ := run_cut (P := Try.prog) 36 5 Try.underlying36 Try.size5 (some ⟨bb, 0, none⟩) N N .u64 .u64 (x : Int) ((x : Int) + (n : Int)) x n rfl (by omega) hx
  obtain ⟨D2, r2, d2⟩ := run_cut (P := Try.prog) 36 5 Try.underlying36 Try.size5 A l c .u64 .u64 (y : Int) ((y : Int) + (n : Int)) y n rfl (by omega) (by omega)
  have HD1 := Lib.hid d1
  have HD2 := Lib.hid d2
  clear d1 d2
  go_enter Try.func22, Try.ntmps22
  go_wp2_with (first | (go_at_call 29; refine (off_made _ _ (by assumption)).mono ?_; rintro e w' ⟨rfl, rfl⟩) | (go_at_call 30; refine (within_any _ _ _ _ (by omega) (by omega) (by omega) (by omega) (by omega) (by omega)).mono ?_; rintro e w' ⟨rfl, rfl⟩; first | rw [HX.out] | rw [HY.out]))
  go_still_tail 15, (by kernel_rfl)
  change wpList _ _ _ _ _ w.drew
  refine wpList_copy_rows rfl (.tmp 40) (.tmp 46) 36 36 rfl 5 Try.underlying36 Try.size5 D1 D2 _ _ _ _ rfl rfl bb 5 N x n (byteV f) (byteV (fun i => v (y + i))) (Nat.min_self _) (World.rowIs.drew hm.row) (fun hp => by rw [HD1.out, if_neg (by omega)]; simp [Addr.add_lit]) (by rw [HD2.out]; exact hA.cut hy hlc) (.inr hx) (fun _ _ => rfl) ?_
  intro w' hcp
  go_wp2
  go_ret
  exact ⟨rfl, hm.put hcp.drewL, hcp.drewL.kept⟩
end
end Go.Proofs.Ytjkndigmoclnoaa
