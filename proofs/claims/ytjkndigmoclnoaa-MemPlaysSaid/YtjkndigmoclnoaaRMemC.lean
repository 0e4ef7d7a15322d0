/- Contracts of the document's memories: Load, Store. No condition. -/
import Derived.Test.YtjkndigmoclnoaaRMemB
import Derived.Test.YtjkndigmoclnoaaMemI
namespace Go.Proofs.Ytjkndigmoclnoaa
open Go.RowKit

/-- Bytes read from the last to the first. -/
def hor (f : Nat → UInt8) (a j : Nat) : Nat → Nat
  | 0 => 0
  | d + 1 => hor f a (j + 1) d * 256 + (f (a + j)).toNat
theorem hor_lt (f : Nat → UInt8) (a : Nat) : ∀ (d j : Nat), hor f a j d < 256 ^ d
  | 0, j => by simp [hor]
  | d + 1, j => by
    have ih := hor_lt f a d (j + 1)
    have hb := (f (a + j)).toNat_lt
    show hor f a (j + 1) d * 256 + (f (a + j)).toNat < 256 ^ (d + 1)
    rw [Nat.pow_succ]
    omega
theorem hor_end (f : Nat → UInt8) (a : Nat) : ∀ (d j : Nat), hor f a j (d + 1) = hor f a j d + (f (a + (j + d))).toNat * 256 ^ d
  | 0, j => by simp [hor]
  | d + 1, j => by
    have ih := hor_end f a d (j + 1)
    show hor f a (j + 1) (d + 1) * 256 + (f (a + j)).toNat = hor f a (j + 1) d * 256 + (f (a + j)).toNat + (f (a + (j + (d + 1)))).toNat * 256 ^ (d + 1)
    rw [ih, Nat.pow_succ, show a + (j + 1 + d) = a + (j + (d + 1)) by omega, Nat.add_mul, Nat.mul_assoc]
    omega
theorem ldLo_hor (f : Nat → UInt8) (a : Nat) : ∀ k, k ≤ 8 → ldLo f a k = hor f a 0 k
  | 0, _ => rfl
  | k + 1, h => by
    simp only [ldLo, if_pos (show k < 8 by omega)]
    rw [ldLo_hor f a k (by omega), hor_end, Nat.zero_add]
theorem ldLo_big (f : Nat → UInt8) (a : Nat) : ∀ k, 8 ≤ k → ldLo f a k = hor f a 0 8
  | 0, h => absurd h (by omega)
  | k + 1, h => by
    by_cases hk : k < 8
    · obtain rfl : k = 7 := by omega
      exact ldLo_hor f a 8 (by omega)
    · simp only [ldLo, if_neg hk]
      exact ldLo_big f a k (by omega)
theorem ldHi_hor (f : Nat → UInt8) (a : Nat) : ∀ k, 8 ≤ k → ldHi f a k = hor f a 8 (k - 8)
  | 0, h => absurd h (by omega)
  | k + 1, h => by
    by_cases hk : k < 8
    · obtain rfl : k = 7 := by omega
      simp [ldHi, hor]
    · simp only [ldHi, if_neg hk]
      rw [ldHi_hor f a k (by omega), show k + 1 - 8 = (k - 8) + 1 by omega, hor_end, show 8 + (k - 8) = k by omega]

section
variable {w : World} {rb base N : Nat} {mn mx : Int} {bd : Bool} {lv : Value} {f : Nat → UInt8}

set_option maxHeartbeats 400000 in
theorem rload_arg (at_ n : Int) (hn : wordB n = false) :
    Calls Try.prog 35 #[.pointer (some ⟨rb, 0, none⟩), .int .u64 at_, .int .i64 n] w fun e w' => e = .returned (.tuple #[.agg #[.int .u64 0, .int .u64 0], .int .i64 2]) ∧ Kept S0 w w' := by
  have HW := Lib.hid hn
  clear hn
  have hB := Blk.new w 47 #[.int .u64 0, .int .u64 0]
  have r0 := hB.cell 0
  have r1 := hB.cell 1
  clear hB
  go_enter Try.func35, Try.ntmps35
  go_wp2_with fail
  refine (rsize_any _ _).mono ?_
  rintro e w1 ⟨rfl, rfl⟩
  rw [HW.out]
  go_wp2_with fail
  exact bodyPost_ret (v := .tuple #[.agg #[.int .u64 0, .int .u64 0], .int .i64 2]) (by simp [results, Try.results35, go_sem, r0, r1]) rfl ⟨rfl, (by repeat (first | exact Kept.refl _ _ | assumption | refine Kept.drew ?_ | refine Kept.alloc ?_ _ | refine Kept.setCell ?_ (.inr (by first | exact Nat.le_refl _ | (simp; done) | omega | (simp; omega))) _))⟩

set_option maxHeartbeats 400000 in
theorem rload_out (at_ n : Int) (hm : RMemAt w rb base N mn mx bd lv f) (hN : N ≤ 1048576) (h1 : 0 ≤ at_) (h5 : at_ ≤ 18446744073709551615) (hn : wordB n = true) (ho : inB at_ n N = false) :
    Calls Try.prog 35 #[.pointer (some ⟨rb, 0, none⟩), .int .u64 at_, .int .i64 n] w fun e w' => e = .returned (.tuple #[.agg #[.int .u64 0, .int .u64 0], .int .i64 6]) ∧ Kept S0 w w' := by
  obtain ⟨A, c, hlv, _, _, _⟩ := hm.own.out
  have HW := Lib.hid hn
  have HO := Lib.hid ho
  have hn16 : 0 ≤ n ∧ n ≤ 16 := by unfold wordB at hn; have := of_decide_eq_true hn; omega
  obtain ⟨hn0, hn16⟩ := hn16
  have hu : IntKind.u64.wrap n = n := IntWalk.u64_in _ (by omega)
  have hm1 := hm.kept0 ((Kept.refl S0 w).alloc (.cells #[.int .u64 0, .int .u64 0] 47))
  have k3 := hm1.c3
  rw [hlv] at k3
  have hB := Blk.new w 47 #[.int .u64 0, .int .u64 0]
  have r0 := hB.cell 0
  have r1 := hB.cell 1
  clear hn ho hm hm1 hlv hB
  go_enter Try.func35, Try.ntmps35
  go_wp2_with fail
  refine (rsize_any _ _).mono ?_
  rintro e w1 ⟨rfl, rfl⟩
  rw [HW.out]
  go_wp2_with fail
  refine (rwithin_any _ _ _ _ h1 hn0 (by omega) (by omega) h5 (by omega)).mono ?_
  rintro e w1 ⟨rfl, rfl⟩
  rw [HO.out]
  go_wp2_with fail
  exact bodyPost_ret (v := .tuple #[.agg #[.int .u64 0, .int .u64 0], .int .i64 6]) (by simp [results, Try.results35, go_sem, r0, r1]) rfl ⟨rfl, (by repeat (first | exact Kept.refl _ _ | assumption | refine Kept.drew ?_ | refine Kept.alloc ?_ _ | refine Kept.setCell ?_ (.inr (by first | exact Nat.le_refl _ | (simp; done) | omega | (simp; omega))) _))⟩

structure RLoadRel (w wr : World) (f : Nat → UInt8) (a n j : Nat) : Prop where
  res : Blk wr w.heap.size 47 #[.int .u64 0, .int .u64 0]
  v : Blk wr (w.heap.size + 1) 78 #[.int .u64 (hor f a j (min n 8 - j) : Nat), .int .u64 (hor f a (max j 8) (n - max j 8) : Nat)]
  kept : Kept S0 w wr

set_option maxHeartbeats 3200000 in
theorem rload_in (a n : Nat) (hm : RMemAt w rb base N mn mx bd lv f) (hN : N ≤ 1048576) (h : a + n ≤ N) (hn : wordB n = true) :
    Calls Try.prog 35 #[.pointer (some ⟨rb, 0, none⟩), .int .u64 (a : Int), .int .i64 (n : Int)] w fun e w' => e = .returned (.tuple #[.agg #[.int .u64 (ldLo f a n : Nat), .int .u64 (ldHi f a n : Nat)], .int .i64 0]) ∧ Kept S0 w w' := by
  have HO := Lib.hid (inB_true h)
  have HW := Lib.hid hn
  have hn16 : n ≤ 16 := by unfold wordB at hn; have := of_decide_eq_true hn; omega
  have hn0 : 0 < n := by unfold wordB at hn; have := of_decide_eq_true hn; omega
  have hu : IntKind.u64.wrap (n : Int) = (n : Int) := IntWalk.u64_in _ (by omega)
  have hui : IntKind.i64.wrap (a : Int) = (a : Int) := IntWalk.i64_in _ (by omega)
  obtain ⟨g, cap, fr, hlv, hbg, hnc, hcm, hrow, hF, hQ⟩ := hm.row (by omega)
  have hm1 := hm.kept0 ((Kept.refl S0 w).alloc (.cells #[.int .u64 0, .int .u64 0] 47))
  have k3 := hm1.c3
  rw [hlv] at k3
  have c3 := hm.c3
  rw [hlv] at c3
  have hrb := hm.obj.lt
  have hgl := hrow.lt
  have HROW := Lib.hid hrow
  have HF := Lib.hid hF
  have C3 := Lib.hid c3
  have un : IntKind.i64.wrap ((n : Int) - 1) = (n : Int) - 1 := IntWalk.i64_in _ (by omega)
  clear hn hm hm1 hlv hrow hF hQ c3
  go_enter Try.func35, Try.ntmps35
  go_wp2_with fail
  refine (rsize_any _ _).mono ?_
  rintro e w1 ⟨rfl, rfl⟩
  rw [HW.out]
  go_wp2_with fail
  refine (rwithin_any _ _ _ _ (by omega) (by omega) (by omega) (by omega) (by omega) (by omega)).mono ?_
  rintro e w1 ⟨rfl, rfl⟩
  rw [HO.out]
  clear k3
  go_wp2_with fail
  go_loopw [9] (fun i wr => ∃ j : Nat, i = .int .i64 ((j : Int) - 1) ∧ j ≤ n ∧ RLoadRel w wr f a n j) (fun i _ => ((intOf i) + 1).toNat)
  case atStart =>
    refine ⟨n, rfl, Nat.le_refl _, (Blk.new w _ _).alloc _, ?_, ((Kept.refl S0 w).alloc _).alloc _⟩
    have h1 := Blk.new1 w (.cells #[.int .u64 0, .int .u64 0] 47) 78 #[.int .u64 0, .int .u64 0]
    rw [show min n 8 - n = 0 by omega, show n - max n 8 = 0 by omega]
    exact h1
  case round =>
    obtain ⟨j, rfl, hj, hr⟩ := hrel
    have v0 := hr.v.cell 0
    have v1 := hr.v.cell 1
    have z0 := hr.v.frozen 0
    have z1 := hr.v.frozen 1
    by_cases hlt : 0 < j
    · obtain ⟨i, rfl⟩ : ∃ i, j = i + 1 := ⟨j - 1, by omega⟩
      have ei : ((i + 1 : Nat) : Int) - 1 = (i : Int) := by omega
      rw [ei]
      have hi0 : (0 : Int) ≤ (i : Int) := by omega
      obtain ⟨q, hq⟩ : ∃ q : Nat, q = a + i := ⟨_, rfl⟩
      have u3 : IntKind.i64.wrap ((a : Int) + (i : Int)) = (q : Int) := by rw [IntWalk.i64_in _ (by omega)]; omega
      have hqN : q < N := by omega
      have d3 : wr.cell? ⟨rb, 3, none⟩ = some (.slice (some ⟨g, 0, none⟩) N cap) := (hr.kept.cell (p := ⟨rb, 3, none⟩) hrb (fun e => e)).trans C3.out
      obtain ⟨c, hc⟩ : ∃ c : Nat, c = (f q).toNat := ⟨_, rfl⟩
      have db : wr.cell? ⟨g, q, none⟩ = some (.int .u8 (c : Int)) := by
        rw [(hr.kept.row HROW.out (fun e => e)).cell (i := q) (by omega), HF.out q (by omega), hc]; rfl
      have hc255 : c < 256 := by rw [hc]; exact UInt8.toNat_lt _
      have ec : IntKind.u64.wrap (c : Int) = (c : Int) := IntWalk.u64_in _ (by omega)
      have um : IntKind.i64.wrap ((i : Int) - 1) = (i : Int) - 1 := IntWalk.i64_in _ (by omega)
      by_cases h8 : i < 8
      · have hw0 : IntKind.i64.wrap 0 = 0 := by decide
        have e8 : (i : Int) / 8 = 0 := by omega
        obtain ⟨X, hX⟩ : ∃ X, X = hor f a (i + 1) (min n 8 - (i + 1)) := ⟨_, rfl⟩
        have hXlt : X < 256 ^ 7 := by rw [hX]; exact Nat.lt_of_lt_of_le (hor_lt f a _ _) (Nat.pow_le_pow_right (by omega) (by omega))
        have p7 : (256 : Nat) ^ 7 = 72057594037927936 := by decide
        rw [p7] at hXlt
        rw [← hX] at v0
        have w1 : IntKind.u64.wrap ((X : Int) * 256) = (X : Int) * 256 := IntWalk.u64_in _ (by omega)
        obtain ⟨Y, hY⟩ : ∃ Y : Nat, Y = X * 256 + c := ⟨_, rfl⟩
        have w2 : IntKind.u64.wrap ((X : Int) * 256 + (c : Int)) = (Y : Int) := by rw [IntWalk.u64_in _ (by omega)]; omega
        have hfin : Y = hor f a i (min n 8 - i) := by
          rw [hY, hX, hc, hq, show min n 8 - i = (min n 8 - (i + 1)) + 1 by omega]; rfl
        have HFIN := Lib.hid hfin
        have HR := Lib.hid hr
        clear hr hX hY hfin hc hq p7
        go_wp2_with fail
        go_still_tail 19, (by kernel_rfl)
        change wpList _ _ _ _ _ (World.drew _)
        go_wp2_with fail
        go_roundw
        case rel =>
          refine ⟨i, by go_num, by omega, HR.out.res.drew.far (p := ⟨w.heap.size + 1, 0, none⟩) (by simp) _, ?_, HR.out.kept.drew.setCell (p := ⟨w.heap.size + 1, 0, none⟩) (.inr (by simp)) _⟩
          have h2 := HR.out.v.drew.set_ 0 (.int .u64 (Y : Int))
          rw [HFIN.out, show max (i + 1) 8 = max i 8 by omega] at h2
          rw [HFIN.out]
          exact h2
        case measure => simp [intOf]
      · have hw1 : IntKind.i64.wrap 1 = 1 := by decide
        have e8 : (i : Int) / 8 = 1 := by omega
        obtain ⟨X, hX⟩ : ∃ X, X = hor f a (i + 1) (n - (i + 1)) := ⟨_, rfl⟩
        have hXlt : X < 256 ^ 7 := by rw [hX]; exact Nat.lt_of_lt_of_le (hor_lt f a _ _) (Nat.pow_le_pow_right (by omega) (by omega))
        have p7 : (256 : Nat) ^ 7 = 72057594037927936 := by decide
        rw [p7] at hXlt
        rw [show max (i + 1) 8 = i + 1 by omega, ← hX] at v1
        have w1 : IntKind.u64.wrap ((X : Int) * 256) = (X : Int) * 256 := IntWalk.u64_in _ (by omega)
        obtain ⟨Y, hY⟩ : ∃ Y : Nat, Y = X * 256 + c := ⟨_, rfl⟩
        have w2 : IntKind.u64.wrap ((X : Int) * 256 + (c : Int)) = (Y : Int) := by rw [IntWalk.u64_in _ (by omega)]; omega
        have hfin : Y = hor f a i (n - i) := by
          rw [hY, hX, hc, hq, show n - i = (n - (i + 1)) + 1 by omega]; rfl
        have HFIN := Lib.hid hfin
        have HR := Lib.hid hr
        clear hr hX hY hfin hc hq p7
        go_wp2_with fail
        go_still_tail 19, (by kernel_rfl)
        change wpList _ _ _ _ _ (World.drew _)
        go_wp2_with fail
        go_roundw
        case rel =>
          refine ⟨i, by go_num, by omega, HR.out.res.drew.far (p := ⟨w.heap.size + 1, 1, none⟩) (by simp) _, ?_, HR.out.kept.drew.setCell (p := ⟨w.heap.size + 1, 1, none⟩) (.inr (by simp)) _⟩
          have h2 := HR.out.v.drew.set_ 1 (.int .u64 (Y : Int))
          rw [HFIN.out, show min n 8 - (i + 1) = 0 by omega] at h2
          rw [HFIN.out, show min n 8 - i = 0 by omega, show max i 8 = i by omega]
          exact h2
        case measure => simp [intOf]
    · obtain rfl : j = 0 := by omega
      have r0 := hr.res.cell 0
      have r1 := hr.res.cell 1
      have y0 := hr.res.frozen 0
      have y1 := hr.res.frozen 1
      have hlo : hor f a 0 (min n 8 - 0) = ldLo f a n := by
        by_cases h8 : n ≤ 8
        · rw [show min n 8 - 0 = n by omega, ldLo_hor f a n h8]
        · rw [show min n 8 - 0 = 8 by omega, ldLo_big f a n (by omega)]
      have hhi : hor f a (max 0 8) (n - max 0 8) = ldHi f a n := by
        by_cases h8 : 8 ≤ n
        · rw [show max 0 8 = 8 by omega, ldHi_hor f a n h8]
        · rw [show n - max 0 8 = 0 by omega, ldHi_low f a n (by omega)]; rfl
      rw [hlo] at v0
      rw [hhi] at v1
      have e0 : ((0 : Nat) : Int) - 1 = -1 := by omega
      rw [e0]
      have HK := Lib.hid hr.kept
      clear hlo hhi hr
      go_wp2_with fail
      exact bodyPost_ret (v := .tuple #[.agg #[.int .u64 (ldLo f a n : Nat), .int .u64 (ldHi f a n : Nat)], .int .i64 0]) (by simp [results, Try.results35, go_sem, r0, r1]) rfl ⟨rfl, (HK.out.setCell (p := ⟨w.heap.size, 0, none⟩) (.inr (Nat.le_refl _)) _).setCell (p := ⟨w.heap.size, 1, none⟩) (.inr (Nat.le_refl _)) _⟩
end
end Go.Proofs.Ytjkndigmoclnoaa
