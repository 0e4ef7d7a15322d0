/- What the proofs lean on, part 2 of Ty. No condition. -/
import Derived.Test.YtlnkdnmeikpckaaGreatMSta
import Derived.Test.YtlnkdnmeikpckaaGreatMSte
import Derived.Test.YtlnkdnmeikpckaaGreatMStg
import Derived.Test.YtlnkdnmeikpckaaGreatMSth
import Derived.Test.YtlnkdnmeikpckaaGreatMTya
namespace Go.Proofs.YtlnkdnmeikpckaaGreat
open Go.RowKit
set_option maxRecDepth 100000
/-- Are all values right? -/
def allB (nf : Nat) (f : Nat → V3) (n : Nat) : Bool := (List.range n).all fun i => rightB nf (f i)
theorem allB_false {nf : Nat} {f : Nat → V3} {n i : Nat} (hi : i < n) (h : rightB nf (f i) = false) : allB nf f n = false := by
  unfold allB; rw [List.all_eq_false]; exact ⟨i, List.mem_range.2 hi, by rw [h]; simp⟩
theorem allB_true {nf : Nat} {f : Nat → V3} {n : Nat} (h : ∀ i, i < n → rightB nf (f i) = true) : allB nf f n = true := by
  unfold allB; rw [List.all_eq_true]; intro i hi; exact h i (List.mem_range.1 hi)
/-- Are all addresses below a number? -/
def belowB (f : Nat → Int) (n : Nat) (many : Int) : Bool := (List.range n).all fun i => inA (f i) many
theorem belowB_false {f : Nat → Int} {n i : Nat} {many : Int} (hi : i < n) (h : inA (f i) many = false) : belowB f n many = false := by
  unfold belowB; rw [List.all_eq_false]; exact ⟨i, List.mem_range.2 hi, by rw [h]; simp⟩
theorem belowB_true {f : Nat → Int} {n : Nat} {many : Int} (h : ∀ i, i < n → inA (f i) many = true) : belowB f n many = true := by
  unfold belowB; rw [List.all_eq_true]; intro i hi; exact h i (List.mem_range.1 hi)
theorem cl2_any (sb bx : Nat) (A : Option Addr) (n c : Nat) (x : V3) (w : World) (hp : w.cell? ⟨bx, 0, none⟩ = some (.pointer (some ⟨sb, 0, none⟩))) (hc : w.cell? ⟨sb, 1, none⟩ = some (.slice A n c)) (hn : n ≤ 65536) (hx : VOk x) :
    Calls Tryz.prog 52 #[.agg #[.int .u8 x.t, .int .u64 x.lo, .int .u64 x.hi], .pointer (some ⟨bx, 0, none⟩)] w fun e w' => e = .returned (.bool (!rightB n x)) ∧ Kept S0 w w' := by
  have hka : Kept S0 w (w.alloc (.cells #[.int .u8 x.t, .int .u64 x.lo, .int .u64 x.hi] 65)) := (Kept.refl S0 w).alloc _
  have hB := Blk.new w 65 #[.int .u8 x.t, .int .u64 x.lo, .int .u64 x.hi]
  have e0 := hB.cell 0
  have e1 := hB.cell 1
  have e2 := hB.cell 2
  have p0 := keep0 hka hp
  have HT := Lib.hid (typedv_any sb A n c x _ (keep0 hka hc) hn hx.1 hx.2)
  have HK := Lib.hid hka
  clear hB hka hp hc hx
  go_enter Tryz.func52, Tryz.ntmps52
  go_wp2_with fail
  refine HT.out.mono ?_
  rintro e w2 ⟨rfl, hk⟩
  have HK2 := Lib.hid (HK.out.then0 hk)
  clear hk p0 e0 e1 e2
  go_wp2_with fail
  go_ret
  exact ⟨rfl, HK2.out⟩
set_option maxHeartbeats 1600000 in
theorem indv_any (sb bx : Nat) (A : Option Addr) (n c : Nat) (B : Option Addr) (m d : Nat) (v : Nat → V3) (w : World) (hp : w.cell? ⟨bx, 0, none⟩ = some (.pointer (some ⟨sb, 0, none⟩))) (hs : w.cell? ⟨sb, 1, none⟩ = some (.slice A n c)) (hn : n ≤ 65536) (hA : Sl w B (m * 3) (vcell v)) (hm : m ≤ 9223372036854775806) (hv : ∀ i, i < m → VOk (v i)) :
    Calls Tryz.prog 80 #[.slice B m d, .func (.func 52) #[] #[.pointer (some ⟨bx, 0, none⟩)]] w fun e w' => ∃ r : Int, e = .returned (.int .i64 r) ∧ decide (0 ≤ r) = !allB n v m ∧ Kept S0 w w' := by
  have HA := Lib.hid hA
  have HP := Lib.hid hp
  have HS := Lib.hid hs
  have HV := Lib.hid hv
  clear hA hp hs hv
  go_enter Tryz.func80, Tryz.ntmps80
  go_wp2_with fail
  go_loopw [8] (fun i wr => ∃ k : Nat, k ≤ m ∧ i = .int .i64 (k : Int) ∧ (∀ j, j < k → rightB n (v j) = true) ∧ Kept S0 w wr) (fun i _ => m - (intOf i).toNat)
  case atStart => exact ⟨0, by omega, rfl, fun j hj => absurd hj (by omega), Kept.refl S0 w⟩
  case round =>
    obtain ⟨k, hk, rfl, hfit, hkw⟩ := hrel
    by_cases hlt : k < m
    · have hA2 := (HA.out.slb.kept hkw (Nat.le_refl _) (fun _ h => h.elim)).sl
      obtain ⟨b1, o1, hAe, hc⟩ := hA2 (by omega)
      subst hAe
      have d0 : wr.cell? ⟨b1, o1 + k * 3, none⟩ = some (.int .u8 (v k).t) := by rw [← vcell_0]; exact hc _ (by omega)
      have d1 : wr.cell? ⟨b1, o1 + k * 3 + 1, none⟩ = some (.int .u64 (v k).lo) := by rw [← vcell_1, Nat.add_assoc]; exact hc _ (by omega)
      have d2 : wr.cell? ⟨b1, o1 + k * 3 + 2, none⟩ = some (.int .u64 (v k).hi) := by rw [← vcell_2, Nat.add_assoc]; exact hc _ (by omega)
      have HI := Lib.hid (cl2_any sb bx A n c (v k) wr (keep0 hkw HP.out) (keep0 hkw HS.out) hn (HV.out k hlt))
      have HF := Lib.hid hfit
      have HK := Lib.hid hkw
      clear hc hfit hkw hA2
      go_wp2_with fail
      refine HI.out.mono ?_
      rintro e w1 ⟨rfl, hk1⟩
      cases hfk : rightB n (v k) with
      | true =>
        have HFK := Lib.hid hfk
        clear hfk
        go_wp2_with fail
        go_roundw
        case rel => exact ⟨k + 1, by omega, by go_num, fun j hj => by
          rcases Nat.lt_or_ge j k with h | h
          · exact HF.out j h
          · obtain rfl : j = k := by omega
            exact HFK.out, HK.out.then0 hk1⟩
        case measure => simp [intOf]; omega
      | false =>
        have HFK := Lib.hid hfk
        clear hfk
        go_wp2_with fail
        go_ret
        exact ⟨k, rfl, by rw [allB_false hlt HFK.out]; exact decide_eq_true (by omega), HK.out.then0 hk1⟩
    · obtain rfl : k = m := by omega
      have HF := Lib.hid hfit
      clear hfit
      go_wp2_with fail
      go_ret
      exact ⟨-1, rfl, by rw [allB_true HF.out]; rfl, hkw⟩
theorem contv_any (sb bx : Nat) (A : Option Addr) (n c : Nat) (B : Option Addr) (m d : Nat) (v : Nat → V3) (w : World) (hp : w.cell? ⟨bx, 0, none⟩ = some (.pointer (some ⟨sb, 0, none⟩))) (hs : w.cell? ⟨sb, 1, none⟩ = some (.slice A n c)) (hn : n ≤ 65536) (hA : Sl w B (m * 3) (vcell v)) (hm : m ≤ 9223372036854775806) (hv : ∀ i, i < m → VOk (v i)) :
    Calls Tryz.prog 51 #[.slice B m d, .func (.func 52) #[] #[.pointer (some ⟨bx, 0, none⟩)]] w fun e w' => e = .returned (.bool (!allB n v m)) ∧ Kept S0 w w' := by
  have HI := Lib.hid (indv_any sb bx A n c B m d v w hp hs hn hA hm hv)
  clear hA hp hs hv
  go_enter Tryz.func51, Tryz.ntmps51
  go_wp2_with fail
  refine HI.out.mono ?_
  rintro e w1 ⟨r, rfl, hr, hk⟩
  have HR := Lib.hid hr
  clear hr
  go_wp2_with fail
  go_ret
  exact ⟨ret_bool HR.out, hk⟩
theorem cl1_any (sb bx : Nat) (A : Option Addr) (n c : Nat) (B : Option Addr) (m d : Nat) (v : Nat → V3) (w : World) (hp : w.cell? ⟨bx, 0, none⟩ = some (.pointer (some ⟨sb, 0, none⟩))) (hs : w.cell? ⟨sb, 1, none⟩ = some (.slice A n c)) (hn : n ≤ 65536) (hA : Sl w B (m * 3) (vcell v)) (hm : m ≤ 9223372036854775806) (hv : ∀ i, i < m → VOk (v i)) :
    Calls Tryz.prog 50 #[.slice B m d, .pointer (some ⟨bx, 0, none⟩)] w fun e w' => e = .returned (.bool (allB n v m)) ∧ Kept S0 w w' := by
  have HI := Lib.hid (contv_any sb bx A n c B m d v w hp hs hn hA hm hv)
  clear hA hp hs hv
  go_enter Tryz.func50, Tryz.ntmps50
  go_wp2_with fail
  refine HI.out.mono ?_
  rintro e w1 ⟨rfl, hk⟩
  go_wp2_with fail
  go_ret
  exact ⟨ret_bool (by simp), hk⟩
set_option maxHeartbeats 1600000 in
theorem allr_any (rb : Nat) (A : Option Addr) (n c : Nat) (B : Option Addr) (m d : Nat) (v : Nat → V3) (w : World) (hs : w.cell? ⟨rb, 0, none⟩ = some (.slice A n c)) (hn : n ≤ 65536) (hA : Sl w B (m * 3) (vcell v)) (hm : m ≤ 9223372036854775806) (hv : ∀ i, i < m → VOk (v i)) :
    Calls Tryz.prog 56 #[.pointer (some ⟨rb, 0, none⟩), .slice B m d] w fun e w' => e = .returned (.bool (allB n v m)) ∧ Kept S0 w w' := by
  have HA := Lib.hid hA
  have HS := Lib.hid hs
  have HV := Lib.hid hv
  clear hA hs hv
  go_enter Tryz.func56, Tryz.ntmps56
  go_wp2_with fail
  go_loopw [5] (fun i wr => ∃ k : Nat, k ≤ m ∧ i = .int .i64 (k : Int) ∧ (∀ j, j < k → rightB n (v j) = true) ∧ Kept S0 w wr) (fun i _ => m - (intOf i).toNat)
  case atStart => exact ⟨0, by omega, rfl, fun j hj => absurd hj (by omega), Kept.refl S0 w⟩
  case round =>
    obtain ⟨k, hk, rfl, hfit, hkw⟩ := hrel
    by_cases hlt : k < m
    · have hA2 := (HA.out.slb.kept hkw (Nat.le_refl _) (fun _ h => h.elim)).sl
      obtain ⟨b1, o1, hAe, hc⟩ := hA2 (by omega)
      subst hAe
      have d0 : wr.cell? ⟨b1, o1 + k * 3, none⟩ = some (.int .u8 (v k).t) := by rw [← vcell_0]; exact hc _ (by omega)
      have d1 : wr.cell? ⟨b1, o1 + k * 3 + 1, none⟩ = some (.int .u64 (v k).lo) := by rw [← vcell_1, Nat.add_assoc]; exact hc _ (by omega)
      have d2 : wr.cell? ⟨b1, o1 + k * 3 + 2, none⟩ = some (.int .u64 (v k).hi) := by rw [← vcell_2, Nat.add_assoc]; exact hc _ (by omega)
      have HI := Lib.hid (rightv_any rb A n c (v k) wr (keep0 hkw HS.out) hn (HV.out k hlt).1 (HV.out k hlt).2)
      have HF := Lib.hid hfit
      have HK := Lib.hid hkw
      clear hc hfit hkw hA2
      go_wp2_with fail
      refine HI.out.mono ?_
      rintro e w1 ⟨rfl, hk1⟩
      cases hfk : rightB n (v k) with
      | true =>
        have HFK := Lib.hid hfk
        clear hfk
        go_wp2_with fail
        go_roundw
        case rel => exact ⟨k + 1, by omega, by go_num, fun j hj => by
          rcases Nat.lt_or_ge j k with h | h
          · exact HF.out j h
          · obtain rfl : j = k := by omega
            exact HFK.out, HK.out.then0 hk1⟩
        case measure => simp [intOf]; omega
      | false =>
        have HFK := Lib.hid hfk
        clear hfk
        go_wp2_with fail
        go_ret
        exact ⟨ret_bool (by rw [allB_false hlt HFK.out]), HK.out.then0 hk1⟩
    · obtain rfl : k = m := by omega
      have HF := Lib.hid hfit
      clear hfit
      go_wp2_with fail
      go_ret
      exact ⟨ret_bool (by rw [allB_true HF.out]), hkw⟩
theorem sthere1_any (bx : Nat) (x many : Int) (w : World) (hp : w.cell? ⟨bx, 0, none⟩ = some (.int .i64 many)) :
    Calls Tryz.prog 83 #[.int .i64 x, .pointer (some ⟨bx, 0, none⟩)] w fun e w' => e = .returned (.bool (!inA x many)) ∧ Kept S0 w w' := by
  by_cases h : x < 0
  · have HB := Lib.hid (show inA x many = false by unfold inA; exact decide_eq_false (by omega))
    go_enter Tryz.func83, Tryz.ntmps83
    go_wp2
    go_ret
    exact ⟨ret_bool (by rw [HB.out]; rfl), Kept.refl _ _⟩
  · have h2 : decide (x < 0) = false := decide_eq_false h
    have HB := Lib.hid (show (!inA x many) = decide (many ≤ x) by
      unfold inA
      by_cases h3 : many ≤ x
      · rw [decide_eq_true h3, decide_eq_false (by omega)]; rfl
      · rw [decide_eq_false h3, decide_eq_true (by omega)]; rfl)
    clear h
    go_enter Tryz.func83, Tryz.ntmps83
    go_wp2
    go_ret
    exact ⟨ret_bool (by rw [HB.out]), Kept.refl _ _⟩
set_option maxHeartbeats 1600000 in
theorem indi_any (bx : Nat) (many : Int) (B : Option Addr) (m d : Nat) (v : Nat → Int) (w : World) (hp : w.cell? ⟨bx, 0, none⟩ = some (.int .i64 many)) (hA : Sl w B m (intV v)) (hm : m ≤ 9223372036854775806) :
    Calls Tryz.prog 118 #[.slice B m d, .func (.func 83) #[] #[.pointer (some ⟨bx, 0, none⟩)]] w fun e w' => ∃ r : Int, e = .returned (.int .i64 r) ∧ decide (0 ≤ r) = !belowB v m many ∧ Kept S0 w w' := by
  have HA := Lib.hid hA
  have HP := Lib.hid hp
  clear hA hp
  go_enter Tryz.func118, Tryz.ntmps118
  go_wp2_with fail
  go_loopw [8] (fun i wr => ∃ k : Nat, k ≤ m ∧ i = .int .i64 (k : Int) ∧ (∀ j, j < k → inA (v j) many = true) ∧ Kept S0 w wr) (fun i _ => m - (intOf i).toNat)
  case atStart => exact ⟨0, by omega, rfl, fun j hj => absurd hj (by omega), Kept.refl S0 w⟩
  case round =>
    obtain ⟨k, hk, rfl, hfit, hkw⟩ := hrel
    by_cases hlt : k < m
    · have hA2 := (HA.out.slb.kept hkw (Nat.le_refl _) (fun _ h => h.elim)).sl
      obtain ⟨b1, o1, hAe, hc⟩ := hA2 (by omega)
      subst hAe
      have d0 : wr.cell? ⟨b1, o1 + k, none⟩ = some (.int .i64 (v k)) := hc k hlt
      have HI := Lib.hid (sthere1_any bx (v k) many wr (keep0 hkw HP.out))
      have HF := Lib.hid hfit
      have HK := Lib.hid hkw
      clear hc hfit hkw hA2
      go_wp2_with fail
      refine HI.out.mono ?_
      rintro e w1 ⟨rfl, hk1⟩
      cases hfk : inA (v k) many with
      | true =>
        have HFK := Lib.hid hfk
        clear hfk
        go_wp2_with fail
        go_roundw
        case rel => exact ⟨k + 1, by omega, by go_num, fun j hj => by
          rcases Nat.lt_or_ge j k with h | h
          · exact HF.out j h
          · obtain rfl : j = k := by omega
            exact HFK.out, HK.out.then0 hk1⟩
        case measure => simp [intOf]; omega
      | false =>
        have HFK := Lib.hid hfk
        clear hfk
        go_wp2_with fail
        go_ret
        exact ⟨k, rfl, by rw [belowB_false hlt HFK.out]; exact decide_eq_true (by omega), HK.out.then0 hk1⟩
    · obtain rfl : k = m := by omega
      have HF := Lib.hid hfit
      clear hfit
      go_wp2_with fail
      go_ret
      exact ⟨-1, rfl, by rw [belowB_true HF.out]; rfl, hkw⟩
theorem conti_any (bx : Nat) (many : Int) (B : Option Addr) (m d : Nat) (v : Nat → Int) (w : World) (hp : w.cell? ⟨bx, 0, none⟩ = some (.int .i64 many)) (hA : Sl w B m (intV v)) (hm : m ≤ 9223372036854775806) :
    Calls Tryz.prog 82 #[.slice B m d, .func (.func 83) #[] #[.pointer (some ⟨bx, 0, none⟩)]] w fun e w' => e = .returned (.bool (!belowB v m many)) ∧ Kept S0 w w' := by
  have HI := Lib.hid (indi_any bx many B m d v w hp hA hm)
  clear hA hp
  go_enter Tryz.func82, Tryz.ntmps82
  go_wp2_with fail
  refine HI.out.mono ?_
  rintro e w1 ⟨r, rfl, hr, hk⟩
  have HR := Lib.hid hr
  clear hr
  go_wp2_with fail
  go_ret
  exact ⟨ret_bool HR.out, hk⟩
theorem sthere_any (many : Int) (B : Option Addr) (m d : Nat) (v : Nat → Int) (w : World) (hA : Sl w B m (intV v)) (hm : m ≤ 9223372036854775806) :
    Calls Tryz.prog 55 #[.slice B m d, .int .i64 many] w fun e w' => e = .returned (.bool (belowB v m many)) ∧ Kept S0 w w' := by
  have hka : Kept S0 w (w.alloc (.cells #[.int .i64 many] 3)) := (Kept.refl S0 w).alloc _
  have hB := Blk.new w 3 #[.int .i64 many]
  have HI := Lib.hid (conti_any w.heap.size many B m d v _ (hB.cell 0) (hA.slb.kept hka (Nat.le_refl _) (fun _ x => x.elim)).sl hm)
  have HK := Lib.hid hka
  clear hA hB hka
  go_enter Tryz.func55, Tryz.ntmps55
  go_wp2_with fail
  refine HI.out.mono ?_
  rintro e w1 ⟨rfl, hk⟩
  have HK2 := Lib.hid (HK.out.then0 hk)
  clear hk
  go_wp2_with fail
  go_ret
  exact ⟨ret_bool (by simp), HK2.out⟩
set_option maxHeartbeats 1600000 in
theorem below_any (many : Int) (B : Option Addr) (m d : Nat) (v : Nat → Int) (w : World) (hA : Sl w B m (intV v)) (hm : m ≤ 9223372036854775806) :
    Calls Tryz.prog 58 #[.slice B m d, .int .i64 many] w fun e w' => e = .returned (.bool (belowB v m many)) ∧ Kept S0 w w' := by
  have HA := Lib.hid hA
  clear hA
  go_enter Tryz.func58, Tryz.ntmps58
  go_wp2_with fail
  go_loopw [5] (fun i wr => ∃ k : Nat, k ≤ m ∧ i = .int .i64 (k : Int) ∧ (∀ j, j < k → inA (v j) many = true) ∧ Kept S0 w wr) (fun i _ => m - (intOf i).toNat)
  case atStart => exact ⟨0, by omega, rfl, fun j hj => absurd hj (by omega), Kept.refl S0 w⟩
  case round =>
    obtain ⟨k, hk, rfl, hfit, hkw⟩ := hrel
    by_cases hlt : k < m
    · have hA2 := (HA.out.slb.kept hkw (Nat.le_refl _) (fun _ h => h.elim)).sl
      obtain ⟨b1, o1, hAe, hc⟩ := hA2 (by omega)
      subst hAe
      have d0 : wr.cell? ⟨b1, o1 + k, none⟩ = some (.int .i64 (v k)) := hc k hlt
      have HI := Lib.hid ((there_any (v k) many wr).mono (fun e w' (h : e = .returned (.bool (inA (v k) many)) ∧ wr = w') => (⟨h.1, h.2 ▸ Kept.refl S0 wr⟩ : e = .returned (.bool (inA (v k) many)) ∧ Kept S0 wr w')))
      have HF := Lib.hid hfit
      have HK := Lib.hid hkw
      clear hc hfit hkw hA2
      go_wp2_with fail
      refine HI.out.mono ?_
      rintro e w1 ⟨rfl, hk1⟩
      cases hfk : inA (v k) many with
      | true =>
        have HFK := Lib.hid hfk
        clear hfk
        go_wp2_with fail
        go_roundw
        case rel => exact ⟨k + 1, by omega, by go_num, fun j hj => by
          rcases Nat.lt_or_ge j k with h | h
          · exact HF.out j h
          · obtain rfl : j = k := by omega
            exact HFK.out, HK.out.then0 hk1⟩
        case measure => simp [intOf]; omega
      | false =>
        have HFK := Lib.hid hfk
        clear hfk
        go_wp2_with fail
        go_ret
        exact ⟨ret_bool (by rw [belowB_false hlt HFK.out]), HK.out.then0 hk1⟩
    · obtain rfl : k = m := by omega
      have HF := Lib.hid hfit
      clear hfit
      go_wp2_with fail
      go_ret
      exact ⟨ret_bool (by rw [belowB_true HF.out]), hkw⟩
end Go.Proofs.YtlnkdnmeikpckaaGreat
namespace Go.Proofs.YtlnkdnmeikpckaaGreat
open Go.RowKit
set_option maxRecDepth 100000
section
variable {lab lab' : Nat → Nat} {w w' : World} {A : Option Addr} {n c sz bytes : Nat} {F : Nat → Value} {S : Nat → Prop}
theorem SlL.sl (h : SlL lab w A n F) : Sl w A n F := fun hn => let ⟨b, o, e, _, hc⟩ := h hn; ⟨b, o, e, hc⟩
theorem LstL.lsl (h : LstL lab w sz bytes A n c F) : LSl w sz bytes A n c F := ⟨h.sl.sl, h.z, h.sm⟩
end
end Go.Proofs.YtlnkdnmeikpckaaGreat
