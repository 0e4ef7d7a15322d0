/- Contracts of the document's memories: Store. No condition. -/
import Derived.Test.YtjkndigmoclnoaaRMemC
namespace Go.Proofs.Ytjkndigmoclnoaa
open Go.RowKit

section
variable {w : World} {rb base N : Nat} {mn mx : Int} {bd : Bool} {lv : Value} {f : Nat → UInt8}

set_option maxHeartbeats 400000 in
theorem rstore_arg (at_ n lo hi : Int) (hn : wordB n = false) :
    Calls Try.prog 36 #[.pointer (some ⟨rb, 0, none⟩), .int .u64 at_, .int .i64 n, .agg #[.int .u64 lo, .int .u64 hi]] w fun e w' => e = .returned (.int .i64 2) ∧ Kept S0 w w' := by
  have HW := Lib.hid hn
  clear hn
  go_enter Try.func36, Try.ntmps36
  go_wp2_with fail
  refine (rsize_any _ _).mono ?_
  rintro e w1 ⟨rfl, rfl⟩
  rw [HW.out]
  go_wp2_with fail
  go_ret
  exact ⟨rfl, (by repeat (first | exact Kept.refl _ _ | assumption | refine Kept.drew ?_ | refine Kept.alloc ?_ _ | refine Kept.setCell ?_ (.inr (by first | exact Nat.le_refl _ | (simp; done) | omega | (simp; omega))) _))⟩

set_option maxHeartbeats 400000 in
theorem rstore_out (at_ n lo hi : Int) (hm : RMemAt w rb base N mn mx bd lv f) (hN : N ≤ 1048576) (h1 : 0 ≤ at_) (h5 : at_ ≤ 18446744073709551615) (hn : wordB n = true) (ho : inB at_ n N = false) :
    Calls Try.prog 36 #[.pointer (some ⟨rb, 0, none⟩), .int .u64 at_, .int .i64 n, .agg #[.int .u64 lo, .int .u64 hi]] w fun e w' => e = .returned (.int .i64 6) ∧ Kept S0 w w' := by
  obtain ⟨A, c, hlv, _, _, _⟩ := hm.own.out
  have HW := Lib.hid hn
  have HO := Lib.hid ho
  have hn16 : 0 ≤ n ∧ n ≤ 16 := by unfold wordB at hn; have := of_decide_eq_true hn; omega
  obtain ⟨hn0, hn16⟩ := hn16
  have hu : IntKind.u64.wrap n = n := IntWalk.u64_in _ (by omega)
  have hm1 := hm.kept0 ((Kept.refl S0 w).alloc (.cells #[.int .u64 lo, .int .u64 hi] 47))
  have k3 := hm1.c3
  rw [hlv] at k3
  clear hn ho hm hm1 hlv
  go_enter Try.func36, Try.ntmps36
  go_wp2_with fail
  refine (rsize_any _ _).mono ?_
  rintro e w1 ⟨rfl, rfl⟩
  rw [HW.out]
  go_wp2_with fail
  refine (rwithin_any _ _ _ _ h1 hn0 (by omega) (by omega) h5 (by omega)).mono ?_
  rintro e w1 ⟨rfl, rfl⟩
  rw [HO.out]
  go_wp2_with fail
  go_ret
  exact ⟨rfl, (by repeat (first | exact Kept.refl _ _ | assumption | refine Kept.drew ?_ | refine Kept.alloc ?_ _ | refine Kept.setCell ?_ (.inr (by first | exact Nat.le_refl _ | (simp; done) | omega | (simp; omega))) _))⟩

theorem byteOf_low {lo hi k : Nat} (hk : k < 8) : (((lo / 256 ^ k : Nat) : Int)) % 256 = ((byteOf lo hi k).toNat : Int) := by
  unfold byteOf
  rw [if_pos hk, UInt8.toNat_ofNat']
  simp
theorem byteOf_high {lo hi k : Nat} (hk : 8 ≤ k) : (((hi / 256 ^ (k - 8) : Nat) : Int)) % 256 = ((byteOf lo hi k).toNat : Int) := by
  unfold byteOf
  rw [if_neg (by omega), UInt8.toNat_ofNat']
  simp

structure RStoreRel (w wr : World) (rb base N : Nat) (mn mx : Int) (bd : Bool) (lv : Value) (f : Nat → UInt8) (a lo hi vb : Nat) (k : Nat) : Prop where
  mem : RMemAt wr rb base N mn mx bd lv (storeF f a k lo hi)
  v : Blk wr vb 78 #[.int .u64 ((lo / 256 ^ (min k 8) : Nat) : Int), .int .u64 ((hi / 256 ^ (k - 8) : Nat) : Int)]
  kept : Kept (SO lv) w wr

set_option maxHeartbeats 3200000 in
theorem rstore_in (a n lo hi : Nat) (hm : RMemAt w rb base N mn mx bd lv f) (hN : N ≤ 1048576) (h : a + n ≤ N) (hn : wordB n = true) (hlo : lo ≤ 18446744073709551615) (hhi : hi ≤ 18446744073709551615) :
    Calls Try.prog 36 #[.pointer (some ⟨rb, 0, none⟩), .int .u64 (a : Int), .int .i64 (n : Int), .agg #[.int .u64 (lo : Int), .int .u64 (hi : Int)]] w fun e w' => e = .returned (.int .i64 0) ∧ RMemAt w' rb base N mn mx bd lv (storeF f a n lo hi) ∧ Kept (SO lv) w w' := by
  have HO := Lib.hid (inB_true h)
  have HW := Lib.hid hn
  have hn16 : n ≤ 16 := by unfold wordB at hn; have := of_decide_eq_true hn; omega
  have hu : IntKind.u64.wrap (n : Int) = (n : Int) := IntWalk.u64_in _ (by omega)
  have hui : IntKind.i64.wrap (a : Int) = (a : Int) := IntWalk.i64_in _ (by omega)
  obtain ⟨A, cc, hlv, _, _, _⟩ := hm.own.out
  have hm1 := hm.kept0 ((Kept.refl S0 w).alloc (.cells #[.int .u64 (lo : Int), .int .u64 (hi : Int)] 47))
  have k3 := hm1.c3
  rw [hlv] at k3
  have hlvb : ∀ g, lv.ownBlock = some g → g < w.heap.size := fun g hg => (hm.own.lt g hg).2
  have HLB := Lib.hid hlvb
  have HM := Lib.hid hm
  have hrb := hm.obj.lt
  have hf0 : storeF f a 0 lo hi = f := by funext i; unfold storeF; rw [if_neg (by omega)]
  have HF0 := Lib.hid hf0
  clear hn hm hm1 hlv hlvb hf0
  go_enter Try.func36, Try.ntmps36
  go_wp2_with fail
  refine (rsize_any _ _).mono ?_
  rintro e w1 ⟨rfl, rfl⟩
  rw [HW.out]
  go_wp2_with fail
  refine (rwithin_any _ _ _ _ (by omega) (by omega) (by omega) (by omega) (by omega) (by omega)).mono ?_
  rintro e w1 ⟨rfl, rfl⟩
  rw [HO.out]
  clear k3
  have hB0 := Blk.new w 47 #[.int .u64 (lo : Int), .int .u64 (hi : Int)]
  have b0 := hB0.cell 0
  have b1 := hB0.cell 1
  clear hB0
  go_wp2_with fail
  clear b0 b1
  go_loopw [10] (fun i wr => ∃ k : Nat, i = .int .i64 (k : Int) ∧ k ≤ n ∧ RStoreRel w wr rb base N mn mx bd lv f a lo hi (w.heap.size + 1) k) (fun i _ => n - (intOf i).toNat)
  case atStart =>
    have h1 := Blk.new1 w (.cells #[.int .u64 (lo : Int), .int .u64 (hi : Int)] 47) 78 #[.int .u64 (lo : Int), .int .u64 (hi : Int)]
    refine ⟨0, rfl, by omega, ?_, by simpa using h1, ((Kept.refl _ w).alloc _).alloc _⟩
    rw [HF0.out]
    exact (HM.out.kept0 ((Kept.refl S0 w).alloc _)).kept0 ((Kept.refl S0 _).alloc _)
  case round =>
    clear HM HF0
    obtain ⟨k, rfl, hk, hr⟩ := hrel
    by_cases hlt : k < n
    · obtain ⟨g, cap, fr, hlv, hbg, hnc, hcm, hrow, hF, hQ⟩ := hr.mem.row (by omega)
      obtain ⟨q, hq⟩ : ∃ q : Nat, q = a + k := ⟨_, rfl⟩
      have u3 : IntKind.i64.wrap ((a : Int) + (k : Int)) = (q : Int) := by rw [IntWalk.i64_in _ (by omega)]; omega
      have uj : IntKind.i64.wrap ((k : Int) + 1) = (k : Int) + 1 := IntWalk.i64_in _ (by omega)
      have hji : (k : Int) < (n : Int) := by omega
      have hqN : q < N := by omega
      have d3 := hr.mem.c3
      rw [hlv] at d3
      have y0 := hrow.cell (i := q) (by omega)
      have z0 := hrow.frozen q
      have v0 := hr.v.cell 0
      have v1 := hr.v.cell 1
      have x0 := hr.v.frozen 0
      have x1 := hr.v.frozen 1
      have hgv : g ≠ w.heap.size + 1 := fun e => by have := HLB.out g (by rw [hlv]; rfl); omega
      have HGV := Lib.hid hgv
      obtain ⟨c, hc⟩ : ∃ c, c = byteOf lo hi k := ⟨_, rfl⟩
      have HP := Lib.hid (hr.mem.put1 hlv hbg hnc hcm hrow hF hQ q c)
      have hst : storeF f a (k + 1) lo hi = fun i => if i = q then c else storeF f a k lo hi i := by
        funext i
        unfold storeF
        by_cases e : i = q
        · rw [if_pos e, if_pos (by omega), hc, show i - a = k by omega]
        · rw [if_neg e]
          by_cases e2 : a ≤ i ∧ i < a + k
          · rw [if_pos e2, if_pos (by omega)]
          · rw [if_neg e2, if_neg (by omega)]
      have HST := Lib.hid hst
      have HR := Lib.hid hr
      have HLV := Lib.hid hlv
      obtain ⟨cn, hcn⟩ : ∃ cn : Nat, cn = c.toNat := ⟨_, rfl⟩
      by_cases h8 : k < 8
      · have hw0 : IntKind.i64.wrap 0 = 0 := by decide
        have e8 : (k : Int) / 8 = 0 := by omega
        obtain ⟨X, hX⟩ : ∃ X : Nat, X = lo / 256 ^ k := ⟨_, rfl⟩
        have hbt : (X : Int) % 256 = (cn : Int) := by rw [hX, hcn, hc]; exact byteOf_low h8
        rw [show min k 8 = k by omega, ← hX] at v0
        have hXB : X ≤ 18446744073709551615 := by rw [hX]; exact Nat.le_trans (Nat.div_le_self _ _) hlo
        obtain ⟨X2, hX2⟩ : ∃ X2 : Nat, X2 = X / 256 := ⟨_, rfl⟩
        have hdq : (X : Int) / 256 = (X2 : Int) := by omega
        have hwq : IntKind.u64.wrap (X2 : Int) = (X2 : Int) := IntWalk.u64_in _ (by omega)
        have hfin : X2 = lo / 256 ^ (min (k + 1) 8) := by rw [hX2, hX, show min (k + 1) 8 = k + 1 by omega, Nat.pow_succ, Nat.div_div_eq_div_mul]
        have HFIN := Lib.hid hfin
        have HCN := Lib.hid hcn
        have HQQ := Lib.hid hq
        clear hr hrow hF hQ hlv hgv hc hst hcn hX hX2 hfin hq
        go_wp2_with fail
        go_still_tail 13, (by kernel_rfl)
        change wpList _ _ _ _ _ (World.drew _)
        have hdd := (Kept.refl S0 ((wr.setCell ⟨g, q, none⟩ (.int .u8 (cn : Int))))).drew
        have hv2 : Blk ((wr.setCell ⟨g, q, none⟩ (.int .u8 (cn : Int))).drew) (w.heap.size + 1) 78 _ := hdd.blk (HR.out.v.far (p := ⟨g, q, none⟩) (Ne.symm HGV.out) _) (fun x => x)
        have t0 : (wr.setCell ⟨g, q, none⟩ (.int .u8 (cn : Int))).drew.cell? ⟨w.heap.size + 1, 0, none⟩ = some (.int .u64 (X : Int)) := (hdd.cell (p := ⟨w.heap.size + 1, 0, none⟩) (by have := (HR.out.v.far (p := ⟨g, q, none⟩) (Ne.symm HGV.out) (.int .u8 (cn : Int))).lt; exact this) (fun x => x)).trans ((World.cell?_of_block (Below.heap_setCell wr ⟨g, q, none⟩ _ _ (Ne.symm HGV.out))).trans v0)
        have s0 := hv2.frozen 0
        have HV2 := Lib.hid hv2
        clear hdd hv2
        go_wp2_with fail
        go_roundw
        case rel =>
          have hp := HP.out
          rw [← HST.out, ← HCN.out] at hp
          have hm2 := hp.1.kept0 (Kept.refl S0 _).drew
          have hs1 := (Kept.refl (S1 (w.heap.size + 1)) ((wr.setCell ⟨g, q, none⟩ (.int .u8 (cn : Int))).drew)).setCell (p := ⟨w.heap.size + 1, 0, none⟩) (.inl rfl) (.int .u64 (X2 : Int))
          refine ⟨k + 1, by go_num, by omega, hm2.kept hs1 (fun e => ?_) (fun g' hg' e => ?_), ?_, ((HR.out.kept.trans hp.2).drew).setCell (p := ⟨w.heap.size + 1, 0, none⟩) (.inr (by simp)) _⟩
          · have e' : rb = w.heap.size + 1 := e
            omega
          · have e' : g' = w.heap.size + 1 := e
            have := HLB.out g' hg'
            omega
          · have h3 := HV2.out.set_ 0 (.int .u64 (X2 : Int))
            rw [HFIN.out] at h3 ⊢
            rw [show k + 1 - 8 = k - 8 by omega]
            exact h3
        case measure => simp [intOf]; omega
      · have hw1 : IntKind.i64.wrap 1 = 1 := by decide
        have e8 : (k : Int) / 8 = 1 := by omega
        obtain ⟨X, hX⟩ : ∃ X : Nat, X = hi / 256 ^ (k - 8) := ⟨_, rfl⟩
        have hbt : (X : Int) % 256 = (cn : Int) := by rw [hX, hcn, hc]; exact byteOf_high (by omega)
        rw [← hX] at v1
        have hXB : X ≤ 18446744073709551615 := by rw [hX]; exact Nat.le_trans (Nat.div_le_self _ _) hhi
        obtain ⟨X2, hX2⟩ : ∃ X2 : Nat, X2 = X / 256 := ⟨_, rfl⟩
        have hdq : (X : Int) / 256 = (X2 : Int) := by omega
        have hwq : IntKind.u64.wrap (X2 : Int) = (X2 : Int) := IntWalk.u64_in _ (by omega)
        have hfin : X2 = hi / 256 ^ (k + 1 - 8) := by rw [hX2, hX, show k + 1 - 8 = (k - 8) + 1 by omega, Nat.pow_succ, Nat.div_div_eq_div_mul]
        have HFIN := Lib.hid hfin
        have HCN := Lib.hid hcn
        have HQQ := Lib.hid hq
        clear hr hrow hF hQ hlv hgv hc hst hcn hX hX2 hfin hq
        go_wp2_with fail
        go_still_tail 13, (by kernel_rfl)
        change wpList _ _ _ _ _ (World.drew _)
        have hdd := (Kept.refl S0 ((wr.setCell ⟨g, q, none⟩ (.int .u8 (cn : Int))))).drew
        have hv2 : Blk ((wr.setCell ⟨g, q, none⟩ (.int .u8 (cn : Int))).drew) (w.heap.size + 1) 78 _ := hdd.blk (HR.out.v.far (p := ⟨g, q, none⟩) (Ne.symm HGV.out) _) (fun x => x)
        have t0 : (wr.setCell ⟨g, q, none⟩ (.int .u8 (cn : Int))).drew.cell? ⟨w.heap.size + 1, 1, none⟩ = some (.int .u64 (X : Int)) := (hdd.cell (p := ⟨w.heap.size + 1, 1, none⟩) (by have := (HR.out.v.far (p := ⟨g, q, none⟩) (Ne.symm HGV.out) (.int .u8 (cn : Int))).lt; exact this) (fun x => x)).trans ((World.cell?_of_block (Below.heap_setCell wr ⟨g, q, none⟩ _ _ (Ne.symm HGV.out))).trans v1)
        have s0 := hv2.frozen 1
        have HV2 := Lib.hid hv2
        clear hdd hv2
        go_wp2_with fail
        go_roundw
        case rel =>
          have hp := HP.out
          rw [← HST.out, ← HCN.out] at hp
          have hm2 := hp.1.kept0 (Kept.refl S0 _).drew
          have hs1 := (Kept.refl (S1 (w.heap.size + 1)) ((wr.setCell ⟨g, q, none⟩ (.int .u8 (cn : Int))).drew)).setCell (p := ⟨w.heap.size + 1, 1, none⟩) (.inl rfl) (.int .u64 (X2 : Int))
          refine ⟨k + 1, by go_num, by omega, hm2.kept hs1 (fun e => ?_) (fun g' hg' e => ?_), ?_, ((HR.out.kept.trans hp.2).drew).setCell (p := ⟨w.heap.size + 1, 1, none⟩) (.inr (by simp)) _⟩
          · have e' : rb = w.heap.size + 1 := e
            omega
          · have e' : g' = w.heap.size + 1 := e
            have := HLB.out g' hg'
            omega
          · have h3 := HV2.out.set_ 1 (.int .u64 (X2 : Int))
            rw [HFIN.out] at h3 ⊢
            rw [show min (k + 1) 8 = min k 8 by omega]
            exact h3
        case measure => simp [intOf]; omega
    · obtain rfl : k = n := by omega
      go_wp2_with fail
      go_ret
      exact ⟨rfl, hr.mem, hr.kept⟩
end
end Go.Proofs.Ytjkndigmoclnoaa
