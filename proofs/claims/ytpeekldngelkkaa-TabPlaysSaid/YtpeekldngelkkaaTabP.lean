/- Contracts of IndexFunc and ContainsFunc over values, with Init's own test. No condition. -/
import Derived.Test.YtpeekldngelkkaaTabI
namespace Go.Proofs.Ytpeekldngelkkaa
open Go.RowKit

/-- Is there one that doesn't fit? -/
def badB (v : Nat → V3) (n : Nat) (el : Int) : Bool := (List.range n).any fun i => !fitB (v i).t (v i).lo (v i).hi el
theorem badB_true {v : Nat → V3} {n i : Nat} {el : Int} (hi : i < n) (h : fitB (v i).t (v i).lo (v i).hi el = false) : badB v n el = true := by
  unfold badB; rw [List.any_eq_true]; exact ⟨i, List.mem_range.2 hi, by rw [h]; rfl⟩
theorem badB_false {v : Nat → V3} {n : Nat} {el : Int} (h : ∀ i, i < n → fitB (v i).t (v i).lo (v i).hi el = true) : badB v n el = false := by
  unfold badB; rw [List.any_eq_false]; intro i hi; rw [h i (List.mem_range.1 hi)]; simp

set_option maxHeartbeats 800000 in
theorem init1_any (x : V3) (bx tb : Nat) (el : Int) (w : World) (hel : el = 112 ∨ el = 111) (h0 : w.cell? ⟨bx, 0, none⟩ = some (.pointer (some ⟨tb, 0, none⟩))) (h1 : w.cell? ⟨tb, 1, none⟩ = some (.int .u8 el)) :
    Calls Try.prog 34 #[.agg #[.int .u8 x.t, .int .u64 x.lo, .int .u64 x.hi], .pointer (some ⟨bx, 0, none⟩)] w fun e w' => e = .returned (.bool (!fitB x.t x.lo x.hi el)) ∧ Kept S0 w w' := by
  have hka : Kept S0 w (w.alloc (.cells #[.int .u8 x.t, .int .u64 x.lo, .int .u64 x.hi] 43)) := (Kept.refl S0 w).alloc _
  have c0 : (w.alloc (.cells #[.int .u8 x.t, .int .u64 x.lo, .int .u64 x.hi] 43)).cell? ⟨bx, 0, none⟩ = some (.pointer (some ⟨tb, 0, none⟩)) := (hka.cell (p := ⟨bx, 0, none⟩) (World.block_lt_of_cell? _ _ h0) (fun x => x)).trans h0
  have c1 : (w.alloc (.cells #[.int .u8 x.t, .int .u64 x.lo, .int .u64 x.hi] 43)).cell? ⟨tb, 1, none⟩ = some (.int .u8 el) := (hka.cell (p := ⟨tb, 1, none⟩) (World.block_lt_of_cell? _ _ h1) (fun x => x)).trans h1
  have hB := Blk.new w 43 #[.int .u8 x.t, .int .u64 x.lo, .int .u64 x.hi]
  have e0 : (w.alloc (.cells #[.int .u8 x.t, .int .u64 x.lo, .int .u64 x.hi] 43)).cell? ⟨w.heap.size, 0, none⟩ = some (.int .u8 x.t) := hB.cell 0
  have e1 : (w.alloc (.cells #[.int .u8 x.t, .int .u64 x.lo, .int .u64 x.hi] 43)).cell? ⟨w.heap.size, 1, none⟩ = some (.int .u64 x.lo) := hB.cell 1
  have e2 : (w.alloc (.cells #[.int .u8 x.t, .int .u64 x.lo, .int .u64 x.hi] 43)).cell? ⟨w.heap.size, 2, none⟩ = some (.int .u64 x.hi) := hB.cell 2
  have HE := Lib.hid hel
  clear hB hel h0 h1
  go_enter Try.func34, Try.ntmps34
  go_wp2_with fail
  generalize hw1 : w.alloc (.cells #[.int .u8 x.t, .int .u64 x.lo, .int .u64 x.hi] 43) = w1 at *
  have HW := Lib.hid hw1
  clear hw1
  go_still_tail 6, (by kernel_rfl)
  change wpList _ _ _ _ _ (World.drew _)
  go_wp2_with fail
  refine (fits_ref x.t x.lo x.hi el _ HE.out).mono ?_
  rintro e w2 ⟨rfl, hk⟩
  have hk1 := hka.drew.then0 hk
  go_wp2_with fail
  go_ret
  exact ⟨rfl, hk1⟩

set_option maxHeartbeats 1600000 in
theorem index_fit (A : Option Addr) (n c : Nat) (v : Nat → V3) (bx tb : Nat) (el : Int) (w : World) (hel : el = 112 ∨ el = 111) (hA : Sl w A (n * 3) (vcell v)) (hn : n ≤ 9223372036854775806)
    (h0 : w.cell? ⟨bx, 0, none⟩ = some (.pointer (some ⟨tb, 0, none⟩))) (h1 : w.cell? ⟨tb, 1, none⟩ = some (.int .u8 el)) :
    Calls Try.prog 45 #[.slice A n c, .func (.func 34) #[] #[.pointer (some ⟨bx, 0, none⟩)]] w fun e w' => ∃ r : Int, e = .returned (.int .i64 r) ∧ decide (0 ≤ r) = badB v n el ∧ Kept S0 w w' := by
  have HA := Lib.hid hA
  have H0 := Lib.hid h0
  have H1 := Lib.hid h1
  clear hA h0 h1
  go_enter Try.func45, Try.ntmps45
  go_wp2_with fail
  go_loopw [8] (fun i wr => ∃ k : Nat, k ≤ n ∧ i = .int .i64 (k : Int) ∧ (∀ j, j < k → fitB (v j).t (v j).lo (v j).hi el = true) ∧ Kept S0 w wr) (fun i _ => n - (intOf i).toNat)
  case atStart => exact ⟨0, by omega, rfl, fun j hj => absurd hj (by omega), Kept.refl S0 w⟩
  case round =>
    obtain ⟨k, hk, rfl, hfit, hkw⟩ := hrel
    by_cases hlt : k < n
    · have hA2 := (HA.out.slb.kept hkw (Nat.le_refl _) (fun _ h => h.elim)).sl
      obtain ⟨b1, o1, hAe, hc⟩ := hA2 (by omega)
      subst hAe
      have d0 : wr.cell? ⟨b1, o1 + k * 3, none⟩ = some (.int .u8 (v k).t) := by rw [← vcell_0]; exact hc _ (by omega)
      have d1 : wr.cell? ⟨b1, o1 + k * 3 + 1, none⟩ = some (.int .u64 (v k).lo) := by rw [← vcell_1, Nat.add_assoc]; exact hc _ (by omega)
      have d2 : wr.cell? ⟨b1, o1 + k * 3 + 2, none⟩ = some (.int .u64 (v k).hi) := by rw [← vcell_2, Nat.add_assoc]; exact hc _ (by omega)
      have c0 : wr.cell? ⟨bx, 0, none⟩ = some (.pointer (some ⟨tb, 0, none⟩)) := (hkw.cell (p := ⟨bx, 0, none⟩) (World.block_lt_of_cell? _ _ H0.out) (fun x => x)).trans H0.out
      have c1 : wr.cell? ⟨tb, 1, none⟩ = some (.int .u8 el) := (hkw.cell (p := ⟨tb, 1, none⟩) (World.block_lt_of_cell? _ _ H1.out) (fun x => x)).trans H1.out
      have HI := Lib.hid (init1_any (v k) bx tb el wr hel c0 c1)
      have HF := Lib.hid hfit
      have HK := Lib.hid hkw
      clear hc c0 c1 hfit hkw hA2
      go_wp2_with fail
      refine HI.out.mono ?_
      rintro e w1 ⟨rfl, hk1⟩
      cases hfk : fitB (v k).t (v k).lo (v k).hi el with
      | true =>
        have HFK := Lib.hid hfk
        clear hfk
        go_wp2_with fail
        go_roundw
        case rel => exact ⟨k + 1, by omega, by go_num, fun j hj => by
          rcases Nat.lt_or_ge j k with h | h
          · exact HF.out j h
          · obtain rfl : j = k := by omega
            exact HFK.out, HK.out.then0 hk1⟩
        case measure => simp [intOf]; omega
      | false =>
        have HFK := Lib.hid hfk
        clear hfk
        go_wp2_with fail
        go_ret
        exact ⟨k, rfl, by rw [badB_true hlt HFK.out]; exact decide_eq_true (by omega), HK.out.then0 hk1⟩
    · obtain rfl : k = n := by omega
      have HF := Lib.hid hfit
      clear hfit
      go_wp2_with fail
      go_ret
      exact ⟨-1, rfl, by rw [badB_false HF.out]; rfl, hkw⟩

theorem contains_fit (A : Option Addr) (n c : Nat) (v : Nat → V3) (bx tb : Nat) (el : Int) (w : World) (hel : el = 112 ∨ el = 111) (hA : Sl w A (n * 3) (vcell v)) (hn : n ≤ 9223372036854775806)
    (h0 : w.cell? ⟨bx, 0, none⟩ = some (.pointer (some ⟨tb, 0, none⟩))) (h1 : w.cell? ⟨tb, 1, none⟩ = some (.int .u8 el)) :
    Calls Try.prog 33 #[.slice A n c, .func (.func 34) #[] #[.pointer (some ⟨bx, 0, none⟩)]] w fun e w' => e = .returned (.bool (badB v n el)) ∧ Kept S0 w w' := by
  have HI := Lib.hid (index_fit A n c v bx tb el w hel hA hn h0 h1)
  clear hA h0 h1
  go_enter Try.func33, Try.ntmps33
  go_wp2_with fail
  refine HI.out.mono ?_
  rintro e w1 ⟨r, rfl, hr, hk⟩
  have HR := Lib.hid hr
  clear hr
  go_wp2_with fail
  go_ret
  exact ⟨ret_bool HR.out, hk⟩
end Go.Proofs.Ytpeekldngelkkaa
