/- The walk of the statement MemCopies. No condition. -/
import Derived.Test.YtjkndigmoclnoaaMemK
import Derived.Test.YtjkndigmoclnoaaMemE
import Derived.Test.YtjkndigmoclnoaaSame
import Derived.Deep.DeepCutAuto
namespace Go.Proofs.Ytjkndigmoclnoaa
open Go.RowKit

/-- A page that was read off a memory. -/
structure Was (w : World) (g cap : Nat) (f : Nat → UInt8) : Prop where
  row : ∃ fr, w.rowIs g 5 cap fr ∧ ∀ i, i < 65536 → fr i = byteV f i
  lo : 65536 ≤ cap
  hi : cap ≤ maxLen

theorem Was.of {w : World} {base g cap : Nat} {f : Nat → UInt8} (h : Own w base 5 1 IsByte (.slice (some ⟨g, 0, none⟩) 65536 cap) 65536 (byteV f)) : Was w g cap f := by
  rcases h with ⟨h, _⟩ | ⟨g', cap', fr, h, _, h1, h2, h3, h4, _⟩
  · cases h
  · simp only [Value.slice.injEq, Option.some.injEq, Addr.mk.injEq, and_true, true_and] at h
    obtain ⟨rfl, rfl⟩ := h
    rw [Nat.mul_one] at h3
    exact ⟨⟨fr, h3, fun i hi => h4 i (by omega)⟩, h1, h2⟩
theorem Was.kept {w w' : World} {S : Nat → Prop} {g cap : Nat} {f : Nat → UInt8} (h : Was w g cap f) (hk : Kept S w w') (hn : ¬ S g) : Was w' g cap f :=
  let ⟨fr, h1, h2⟩ := h.row
  ⟨⟨fr, hk.row h1 hn, h2⟩, h.lo, h.hi⟩
theorem Was.sl {w : World} {g cap : Nat} {f : Nat → UInt8} (h : Was w g cap f) : Sl w (some ⟨g, 0, none⟩) 65536 (byteV f) :=
  let ⟨_, h1, h2⟩ := h.row
  (Sl.of_row h1 h.lo).congr h2
theorem Was.drew {w : World} {g cap : Nat} {f : Nat → UInt8} (h : Was w g cap f) : Was w.drew g cap f := ⟨h.row, h.lo, h.hi⟩
theorem Was.drewN {w : World} {g cap : Nat} {f : Nat → UInt8} (h : Was w g cap f) (n : Nat) : Was (w.drewN n) g cap f := ⟨h.row, h.lo, h.hi⟩
theorem MemAt.drewN {w : World} {pb bb n : Nat} {mn mx : Int} {bd : Bool} {f : Nat → UInt8} (h : MemAt w pb bb n mn mx bd f) (q : Nat) : MemAt (w.drewN q) pb bb n mn mx bd f := ⟨h.obj, h.row⟩

set_option maxHeartbeats 1600000 in
set_option maxRecDepth 100000 in
theorem copies_any (x y k : Nat) (A : Option Addr) (n c : Nat) (v : Nat → UInt8) (w : World) (hx : x ≤ 65535) (hy : y ≤ 65535) (hk : k ≤ 65535) (hA : Sl w A n (byteV v)) (hnc : n ≤ c) (hn : n ≤ 140737488351232) :
    Calls Try.prog 4 #[.int .u16 (x : Int), .int .u16 (y : Int), .int .u16 (k : Int), .slice A n c] w fun e w' => e = .returned (.bool true) ∧ Kept S0 w w' := by
  have hab := hA.slb
  obtain ⟨m, hm⟩ : ∃ m : Nat, m = min n 65536 := ⟨_, rfl⟩
  have hmn : m ≤ n := by omega
  have hm6 : m ≤ 65536 := by omega
  have hmin : (if (65536 : Int) < (n : Int) then (65536 : Int) else (n : Int)) = (m : Int) := by split <;> omega
  obtain ⟨D1, r1, d1⟩ := run_cut_h (P := Try.prog) 36 5 Try.underlying36 Try.size5 A n c .i64 (m : Int) m rfl (by omega)
  have HD1 := Lib.hid d1
  clear d1 hm
  go_enter Try.func4, Try.ntmps4
  go_wp2_with fail
  refine (one_any _).mono ?_
  rintro e w1 ⟨pb, bb, rfl, hm1, hp1, hp2, hk1⟩
  have hs1 : Sl w1 D1 m (byteV v) := by rw [HD1.out]; exact ((hab.kept hk1 (Nat.le_refl _) (fun _ h => h.elim)).sl).cut0 hmn hnc
  go_wp2_with fail
  refine (write_in 0 D1 m c v hm1 (by omega) hs1 (by omega)).mono ?_
  rintro e w2 ⟨rfl, hm2, hk2⟩
  have hk3 : Kept S0 w w2 := hk1.trans_ hk2 (fun i hi => .inr (by cases hi; exact hp2))
  generalize putF zeroF 0 m v = f at hm2
  clear hs1 hm1 hk1 hk2 r1 hmin hab hA HD1
  go_wp2_with fail
  refine (read_in 0 65536 hm2 (by omega) (by omega)).mono ?_
  rintro e w3 ⟨g1, q1, rfl, ho1, hk4⟩
  simp only [Nat.zero_add] at ho1
  have hg1 := (ho1.lt g1 rfl).1
  have hwas := Was.of ho1
  have hm3 := hm2.kept0 hk4
  have hk5 := hk3.then0 hk4
  have hw3 : w.heap.size ≤ w3.heap.size := hk5.size
  have hbg : bb < g1 := Nat.lt_of_lt_of_le hm2.row.lt hg1
  have hpg : pb < g1 := Nat.lt_of_lt_of_le hm2.obj.lt hg1
  have u1 : IntKind.i64.wrap (x : Int) = (x : Int) := IntWalk.i64_in _ (by omega)
  have u2 : IntKind.i64.wrap (y : Int) = (y : Int) := IntWalk.i64_in _ (by omega)
  have u3 : IntKind.i64.wrap (k : Int) = (k : Int) := IntWalk.i64_in _ (by omega)
  have v1 : IntKind.u64.wrap (x : Int) = (x : Int) := IntWalk.u64_in _ (by omega)
  have v2 : IntKind.u64.wrap (y : Int) = (y : Int) := IntWalk.u64_in _ (by omega)
  have v3 : IntKind.u64.wrap (k : Int) = (k : Int) := IntWalk.u64_in _ (by omega)
  clear ho1 hk4 hm2 hk3 hg1
  go_wp2_with fail
  by_cases hout : x + k ≤ 65536 ∧ y + k ≤ 65536
  · obtain ⟨hx1, hy1⟩ := hout
    refine (copy_in x y k hm3 (by omega) hx1 hy1).mono ?_
    rintro e w4 ⟨rfl, hm4, hk6⟩
    have hk7 : Kept S0 w w4 := hk5.trans_ hk6 (fun i hi => .inr (by cases hi; exact hp2))
    have hw4 := hwas.kept hk6 (fun e => by have e' : g1 = bb := e; omega)
    have hb4 : bb < w4.heap.size := hm4.row.lt
    clear hm3 hwas hk6 hk5
    go_wp2_with fail
    refine (read_in 0 65536 hm4 (by omega) (by omega)).mono ?_
    rintro e w5 ⟨g2, q2, rfl, ho2, hk8⟩
    simp only [Nat.zero_add] at ho2
    have hn5 := Was.of ho2
    have hw5 := hw4.kept hk8 (fun x => x)
    have hm5 := hm4.kept0 hk8
    have hk9 := hk7.then0 hk8
    have L1 := hw5.lo
    have L2 := hw5.hi
    have L3 := hn5.lo
    have L4 := hn5.hi
    unfold maxLen at L2 L4
    clear ho2 hk8 hm4 hw4 hk7
    obtain ⟨A1, a1, b1⟩ := run_cut (P := Try.prog) 36 5 Try.underlying36 Try.size5 (some ⟨g2, 0, none⟩) 65536 q2 .i64 .i64 (x : Int) ((x : Int) + (k : Int)) x k rfl (by omega) (by omega)
    obtain ⟨A2, a2, b2⟩ := run_cut (P := Try.prog) 36 5 Try.underlying36 Try.size5 (some ⟨g1, 0, none⟩) 65536 q1 .i64 .i64 (y : Int) ((y : Int) + (k : Int)) y k rfl (by omega) (by omega)
    obtain ⟨A3, a3, b3⟩ := run_cut_h (P := Try.prog) 36 5 Try.underlying36 Try.size5 (some ⟨g2, 0, none⟩) 65536 q2 .i64 (x : Int) x rfl (by omega)
    obtain ⟨A4, a4, b4⟩ := run_cut_h (P := Try.prog) 36 5 Try.underlying36 Try.size5 (some ⟨g1, 0, none⟩) 65536 q1 .i64 (x : Int) x rfl (by omega)
    obtain ⟨A5, a5, b5⟩ := run_cut_l (P := Try.prog) 36 5 Try.underlying36 Try.size5 (some ⟨g2, 0, none⟩) 65536 q2 .i64 ((x : Int) + (k : Int)) (x + k) (by omega) hx1
    obtain ⟨A6, a6, b6⟩ := run_cut_l (P := Try.prog) 36 5 Try.underlying36 Try.size5 (some ⟨g1, 0, none⟩) 65536 q1 .i64 ((x : Int) + (k : Int)) (x + k) (by omega) hx1
    have B1 := Lib.hid b1
    have B2 := Lib.hid b2
    have B3 := Lib.hid b3
    have B4 := Lib.hid b4
    have B5 := Lib.hid b5
    have B6 := Lib.hid b6
    clear b1 b2 b3 b4 b5 b6
    have w3' : IntKind.i64.wrap ((x : Int) + (k : Int)) = (x : Int) + (k : Int) := IntWalk.i64_in _ (by omega)
    have w4' : IntKind.i64.wrap ((y : Int) + (k : Int)) = (y : Int) + (k : Int) := IntWalk.i64_in _ (by omega)
    have S1 : ∀ q, Calls Try.prog 18 #[.slice A1 k (q2 - x), .slice A2 k (q1 - y)] (w5.drewN q) fun e w' => e = .returned (.bool true) ∧ ∃ m, w' = (w5.drewN q).drewN m := fun q => by
      have h := same_quiet A1 A2 k k (q2 - x) (q1 - y) _ _ (w5.drewN q) (by rw [B1.out]; exact ((hn5.drewN q).sl).cut (k := x) (m := k) (by omega) L3) (by rw [B2.out]; exact ((hw5.drewN q).sl).cut (k := y) (m := k) (by omega) L1) (by omega) (by omega)
      rw [sameB_true (fun i hi => by show putF f x k _ (x + i) = f (y + i); unfold putF; rw [if_pos (by omega), show x + i - x = i by omega])] at h
      exact h
    have S2 : ∀ q, Calls Try.prog 18 #[.slice A3 x q2, .slice A4 x q1] (w5.drewN q) fun e w' => e = .returned (.bool true) ∧ ∃ m, w' = (w5.drewN q).drewN m := fun q => by
      have h := same_quiet A3 A4 x x q2 q1 _ _ (w5.drewN q) (by rw [B3.out]; exact ((hn5.drewN q).sl).cut0 (m := x) (by omega) L3) (by rw [B4.out]; exact ((hw5.drewN q).sl).cut0 (m := x) (by omega) L1) (by omega) (by omega)
      rw [sameB_true (fun i hi => by unfold putF; rw [if_neg (by omega)])] at h
      exact h
    have S3 : ∀ q, Calls Try.prog 18 #[.slice A5 (65536 - (x + k)) (q2 - (x + k)), .slice A6 (65536 - (x + k)) (q1 - (x + k))] (w5.drewN q) fun e w' => e = .returned (.bool true) ∧ ∃ m, w' = (w5.drewN q).drewN m := fun q => by
      have h := same_quiet A5 A6 (65536 - (x + k)) (65536 - (x + k)) (q2 - (x + k)) (q1 - (x + k)) _ _ (w5.drewN q) (by rw [B5.out]; exact ((hn5.drewN q).sl).cut (k := x + k) (m := 65536 - (x + k)) (by omega) L3) (by rw [B6.out]; exact ((hw5.drewN q).sl).cut (k := x + k) (m := 65536 - (x + k)) (by omega) L1) (by omega) (by omega)
      rw [sameB_true (fun i hi => by show putF f x k _ (x + k + i) = f (x + k + i); unfold putF; rw [if_neg (by omega)])] at h
      exact h
    have T1 := Lib.hid S1
    have T2 := Lib.hid S2
    have T3 := Lib.hid S3
    clear S1 S2 S3
    go_upto_region 13 with fail
    go_quiet (first | (with_reducible exact Calls.quiet_of (T1.out _)) | (with_reducible exact Calls.quiet_of (T2.out _)) | (with_reducible exact Calls.quiet_of (T3.out _)))
    obtain ⟨A7, a7, b7⟩ := run_cut (P := Try.prog) 36 5 Try.underlying36 Try.size5 (some ⟨g1, 0, none⟩) 65536 q1 .i64 .i64 (x : Int) ((x : Int) + (k : Int)) x k rfl (by omega) (by omega)
    have B7 := Lib.hid b7
    have hs7 : Sl (w5.drewN nq) A7 k (byteV (fun i => f (x + i))) := by rw [B7.out]; exact ((hw5.drewN nq).sl).cut (k := x) (m := k) (by omega) L1
    clear b7 T1 T2 T3 B1 B2 B3 B4 B5 B6 B7
    have hm6 := hm5.drewN nq
    have hw6 := hw5.drewN nq
    have hk10 := hk9.drewN nq
    have hbg5 := hm6.row.lt
    clear hm5 hw5 hn5 hk9
    have hov : (x + k ≤ y ∨ (y < x + k ∧ y + k ≤ x)) ∨ (y < x + k ∧ x < y + k) := by omega
    rcases hov with ho | ⟨ho1, ho2⟩
    · rcases ho with ho | ⟨ho1, ho2⟩
      all_goals
        go_wp2_with fail
        refine (write_in x A7 k _ _ hm6 (by omega) hs7 (by omega)).mono ?_
        rintro e w7 ⟨rfl, hm7, hk11⟩
        have hw7 := hw6.kept hk11 (fun e => by have e' : g1 = bb := e; omega)
        have hk12 : Kept S0 w w7 := hk10.trans_ hk11 (fun i hi => .inr (by cases hi; exact hp2))
        go_wp2_with fail
        refine (read_in 0 65536 hm7 (by omega) (by omega)).mono ?_
        rintro e w8 ⟨g3, q3, rfl, ho3, hk13⟩
        simp only [Nat.zero_add] at ho3
        have hn8 := Was.of ho3
        have hw8 := hw7.kept hk13 (fun x => x)
        have hk14 := hk12.then0 hk13
        have hsm := same_any _ _ 65536 65536 q3 q1 _ _ w8 hn8.sl hw8.sl (by omega) (by omega)
        rw [sameB_true (fun i hi => by
          show putF (putF f x k (fun i => f (y + i))) x k (fun i => f (x + i)) i = f i
          unfold putF
          by_cases h : x ≤ i ∧ i < x + k
          · rw [if_pos h]; show f (x + (i - x)) = f i; rw [show x + (i - x) = i by omega]
          · rw [if_neg h, if_neg h])] at hsm
        have SM := Lib.hid hsm
        clear hsm ho3 hk11 hk13 hm6 hs7 hw6 hw7 hm7 hn8 hw8 hk12
        go_wp2_with fail
        refine SM.out.mono ?_
        rintro e w9 ⟨rfl, hk15⟩
        go_wp2_with fail
        refine (lives_any _).mono ?_
        rintro e w10 ⟨rfl, hk16⟩
        go_wp2_with fail
        go_ret
        exact ⟨rfl, (hk14.then0 hk15).then0 hk16⟩
    · go_wp2_with fail
      refine (lives_any _).mono ?_
      rintro e w10 ⟨rfl, hk16⟩
      go_wp2_with fail
      go_ret
      exact ⟨rfl, hk10.then0 hk16⟩
  · refine (copy_out (x : Int) (y : Int) (k : Int) hm3 (by omega) (by omega) (by omega) (by omega) (by omega) (by omega) (by omega) (by
      by_cases h : x + k ≤ 65536
      · exact .inr (decide_eq_false (by omega))
      · exact .inl (decide_eq_false (by omega)))).mono ?_
    rintro e w4 ⟨rfl, rfl⟩
    have hor : 65536 < x + k ∨ (x + k ≤ 65536 ∧ 65536 < y + k) := by omega
    clear hout
    rcases hor with ho | ⟨ho1, ho2⟩
    all_goals
      go_wp2_with fail
      refine (read_in 0 65536 hm3 (by omega) (by omega)).mono ?_
      rintro e w5 ⟨g2, q2, rfl, ho2, hk8⟩
      simp only [Nat.zero_add] at ho2
      have hn5 := Was.of ho2
      have hw5 := hwas.kept hk8 (fun x => x)
      have hk9 := hk5.then0 hk8
      have hsm := same_any _ _ 65536 65536 q1 q2 _ _ w5 hw5.sl hn5.sl (by omega) (by omega)
      rw [sameB_true (fun i _ => rfl)] at hsm
      have SM := Lib.hid hsm
      clear hsm ho2 hk8
      go_wp2_with fail
      refine SM.out.mono ?_
      rintro e w9 ⟨rfl, hk15⟩
      go_wp2_with fail
      refine (lives_any _).mono ?_
      rintro e w10 ⟨rfl, hk16⟩
      go_wp2_with fail
      go_ret
      exact ⟨rfl, (hk9.then0 hk15).then0 hk16⟩
end Go.Proofs.Ytjkndigmoclnoaa
