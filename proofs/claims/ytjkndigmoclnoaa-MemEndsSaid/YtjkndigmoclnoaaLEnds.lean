/- The walk of the statement MemEnds. No condition. -/
import Derived.Test.YtjkndigmoclnoaaLCopies
import Derived.Test.YtjkndigmoclnoaaMemI
import Derived.Test.YtjkndigmoclnoaaMemB
import Derived.Test.YtjkndigmoclnoaaMemD
import Derived.Test.YtjkndigmoclnoaaMemJ
namespace Go.Proofs.Ytjkndigmoclnoaa
open Go.RowKit

theorem fillF_none (f : Nat → UInt8) (a : Nat) (c : UInt8) : fillF f a 0 c = f := fillF_zero f a c
theorem putF_none (f : Nat → UInt8) (a : Nat) (v : Nat → UInt8) : putF f a 0 v = f := by
  funext i; unfold putF; rw [if_neg (by omega)]

set_option maxHeartbeats 3200000 in
set_option maxRecDepth 100000 in
theorem ends_any (over n : Int) (c : UInt8) (w : World) (h1 : 0 ≤ over) (h2 : over ≤ 18446744073709551615) (h3 : 0 ≤ n) (h4 : n ≤ 18446744073709551615) :
    Calls Try.prog 6 #[.int .u64 over, .int .u64 n, .int .u8 (c.toNat : Int)] w fun e w' => e = .returned (.bool true) ∧ Kept S0 w w' := by
  obtain ⟨far, hfar⟩ : ∃ far : Int, far = 65537 + over % 9223372036854775808 := ⟨_, rfl⟩
  have f1 : 65537 ≤ far := by omega
  have f2 : far ≤ 9223372036854841344 := by omega
  obtain ⟨n1, hn1⟩ : ∃ n1 : Int, n1 = if n < 1 then 1 else n := ⟨_, rfl⟩
  have n1a : 1 ≤ n1 := by rw [hn1]; split <;> omega
  have n1b : n1 ≤ 18446744073709551615 := by rw [hn1]; split <;> omega
  obtain ⟨m1, hm1⟩ : ∃ m1 : Int, m1 = if 65536 < n1 then 65536 else n1 := ⟨_, rfl⟩
  have m1a : 1 ≤ m1 := by rw [hm1]; split <;> omega
  have m1b : m1 ≤ 65536 := by rw [hm1]; split <;> omega
  have m1c : m1 ≤ n1 := by rw [hm1]; split <;> omega
  obtain ⟨m2, hm2⟩ : ∃ m2 : Int, m2 = if n1 < 65536 then 65536 else n1 := ⟨_, rfl⟩
  have m2a : 65536 ≤ m2 := by rw [hm2]; split <;> omega
  have m2b : m2 ≤ 18446744073709551615 := by rw [hm2]; split <;> omega
  have HF := Lib.hid hfar
  have H1 := Lib.hid hn1
  have H2 := Lib.hid hm1
  have H3 := Lib.hid hm2
  clear hfar hn1 hm1 hm2
  go_enter Try.func6, Try.ntmps6
  go_wp2_with fail
  refine (one_any _).mono ?_
  rintro e w1 ⟨pb, bb, rfl, hm1, hp1, hp2, hk1⟩
  go_wp2_with fail
  refine (fill_in 0 65536 c hm1 (by omega) (by omega)).mono ?_
  rintro e w2 ⟨rfl, hm2, hk2⟩
  have hk3 : Kept S0 w w2 := hk1.trans_ hk2 (fun i hi => .inr (by cases hi; exact hp2))
  generalize fillF zeroF 0 65536 c = f at hm2
  clear hm1 hk1 hk2
  go_wp2_with fail
  refine (sum_made hm2 (by omega)).mono ?_
  rintro e w3 ⟨rfl, rfl⟩
  generalize hs : sumI f 65536 = s
  have HS := Lib.hid hs
  clear hs
  go_wp2_with fail
  refine (fill_in 65536 0 1 hm2 (by omega) (by omega)).mono ?_
  rintro e w4 ⟨rfl, hm4, hk4⟩
  rw [fillF_none] at hm4
  have hk5 : Kept S0 w w4 := hk3.trans_ hk4 (fun i hi => .inr (by cases hi; exact hp2))
  clear hm2 hk3 hk4
  go_wp2_with fail
  refine (copy_in 65536 65536 0 hm4 (by omega) (by omega) (by omega)).mono ?_
  rintro e w5 ⟨rfl, hm5, hk6⟩
  rw [putF_none] at hm5
  have hk7 : Kept S0 w w5 := hk5.trans_ hk6 (fun i hi => .inr (by cases hi; exact hp2))
  clear hm4 hk5 hk6
  go_wp2_with fail
  refine (init_in 65536 0 0 none 0 0 zeroF (by omega) (by omega) (Sl.nil _) hm5 (by omega) (by omega) (by omega)).mono ?_
  rintro e w6 ⟨rfl, hm6, hk8⟩
  rw [putF_none] at hm6
  have hk9 : Kept S0 w w6 := hk7.trans_ hk8 (fun i hi => .inr (by cases hi; exact hp2))
  clear hm5 hk7 hk8
  go_wp2_with fail
  refine (write_in 65536 none 0 0 zeroF hm6 (by omega) (Sl.nil _) (by omega)).mono ?_
  rintro e w7 ⟨rfl, hm7, hk10⟩
  rw [putF_none] at hm7
  have hk11 : Kept S0 w w7 := hk9.trans_ hk10 (fun i hi => .inr (by cases hi; exact hp2))
  clear hm6 hk9 hk10
  go_wp2_with fail
  rw [← HF.out]
  have b0 : inB far 0 (65536 : Nat) = false := decide_eq_false (by omega)
  have b8 : inB far 8 (65536 : Nat) = false := decide_eq_false (by omega)
  have b1 : inB far 1 (65536 : Nat) = false := decide_eq_false (by omega)
  have B0 := Lib.hid b0
  have B1 := Lib.hid b1
  have B8 := Lib.hid b8
  clear b0 b1 b8
  refine (fill_out far 0 1 hm7 (by omega) (by omega) (by omega) (by omega) (by omega) B0.out).mono ?_
  rintro e w8 ⟨rfl, rfl⟩
  go_wp2_with fail
  refine (copy_out far 0 0 hm7 (by omega) (by omega) (by omega) (by omega) (by omega) (by omega) (by omega) (.inl B0.out)).mono ?_
  rintro e w8 ⟨rfl, rfl⟩
  go_wp2_with fail
  refine (copy_out 0 far 0 hm7 (by omega) (by omega) (by omega) (by omega) (by omega) (by omega) (by omega) (.inr B0.out)).mono ?_
  rintro e w8 ⟨rfl, rfl⟩
  go_wp2_with fail
  refine (init_out 0 1 0 none 0 0 (by omega) hm7 (by omega) (by omega) (by omega) (by omega) (by omega) (by omega) (by omega) (.inr (by decide))).mono ?_
  rintro e w8 ⟨rfl, rfl⟩
  go_wp2_with fail
  refine (write_out far none 0 0 hm7 (by omega) (by omega) (by omega) (by omega) B0.out).mono ?_
  rintro e w8 ⟨rfl, rfl⟩
  have q1 := H1.out.symm
  have q2 := H2.out.symm
  have q3 := H3.out.symm
  clear H1 H2 H3
  have d1 : IntKind.u64.wrap (65536 - m1) = 65536 - m1 := IntWalk.u64_in _ (by omega)
  have d2 : IntKind.u64.wrap (65536 - m1 + 1) = 65536 - m1 + 1 := IntWalk.u64_in _ (by omega)
  go_wp2_with fail
  refine (fill_out (65536 - m1 + 1) n1 1 hm7 (by omega) (by omega) (by omega) (by omega) (by omega) (decide_eq_false (by omega))).mono ?_
  rintro e w8 ⟨rfl, rfl⟩
  go_wp2_with fail
  refine (copy_out 0 1 m2 hm7 (by omega) (by omega) (by omega) (by omega) (by omega) (by omega) (by omega) (.inr (decide_eq_false (by omega)))).mono ?_
  rintro e w8 ⟨rfl, rfl⟩
  clear q1 q2 q3 d1 d2
  go_wp2_with fail
  refine (load_out far 1 hm7 (by omega) (by omega) (by omega) (by decide) B1.out).mono ?_
  rintro e w8 ⟨rfl, hk8⟩
  have hm8 := hm7.kept0 (hk8.alloc (.cells #[.int .u64 0, .int .u64 0] 47))
  have hk12 : Kept S0 w (w8.alloc (.cells #[.int .u64 0, .int .u64 0] 47)) := (hk11.then0 hk8).alloc _
  clear hm7 hk8 hk11
  go_wp2_with fail
  refine (load_out 18446744073709551615 1 hm8 (by omega) (by omega) (by omega) (by decide) (decide_eq_false (by omega))).mono ?_
  rintro e w9 ⟨rfl, hk9⟩
  have hm9 := hm8.kept0 (hk9.alloc (.cells #[.int .u64 0, .int .u64 0] 47))
  have hk13 : Kept S0 w (w9.alloc (.cells #[.int .u64 0, .int .u64 0] 47)) := (hk12.then0 hk9).alloc _
  clear hm8 hk9 hk12
  go_wp2_with fail
  refine (store_out far 8 0 0 hm9 (by omega) (by omega) (by omega) (by decide) B8.out).mono ?_
  rintro e w10 ⟨rfl, hk10⟩
  have hm10 := hm9.kept0 hk10
  have hk14 := hk13.then0 hk10
  clear hm9 hk10 hk13
  have hsum := sum_made hm10 (by omega)
  rw [HS.out] at hsum
  have SM := Lib.hid hsum
  clear hsum
  go_wp2_with fail
  refine SM.out.mono ?_
  rintro e w11 ⟨rfl, rfl⟩
  go_wp2_with fail
  refine (lives_any _).mono ?_
  rintro e w12 ⟨rfl, hk15⟩
  go_wp2_with fail
  go_ret
  exact ⟨rfl, hk14.then0 hk15⟩
end Go.Proofs.Ytjkndigmoclnoaa
