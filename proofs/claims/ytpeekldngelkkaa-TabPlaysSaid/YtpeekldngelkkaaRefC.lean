/- Contracts of the document's tables: Fill. No condition. -/
import Derived.Test.YtpeekldngelkkaaRefB
import Derived.Test.YtpeekldngelkkaaTabQ
namespace Go.Proofs.Ytpeekldngelkkaa
open Go.RowKit

section
variable {w : World} {tb base N : Nat} {el mn mx : Int} {bd : Bool} {lv : Value} {f : Nat → V3}

set_option maxHeartbeats 800000 in
theorem rfill_bad (at_ n : Int) (x : V3) (hm : RefAt w tb base N el mn mx bd lv f) (hel : el = 112 ∨ el = 111) (hf : fitB x.t x.lo x.hi el = false) :
    Calls Try.prog 38 #[.pointer (some ⟨tb, 0, none⟩), .int .u32 at_, .agg #[.int .u8 x.t, .int .u64 x.lo, .int .u64 x.hi], .int .u32 n] w fun e w' => e = .returned (.int .i64 2) ∧ Kept S0 w w' := by
  have hka : Kept S0 w (w.alloc (.cells #[.int .u8 x.t, .int .u64 x.lo, .int .u64 x.hi] 43)) := (Kept.refl S0 w).alloc _
  have hm1 := hm.kept0 hka
  have c0 := hm1.c0
  have hB := Blk.new w 43 #[.int .u8 x.t, .int .u64 x.lo, .int .u64 x.hi]
  have e0 : (w.alloc (.cells #[.int .u8 x.t, .int .u64 x.lo, .int .u64 x.hi] 43)).cell? ⟨w.heap.size, 0, none⟩ = some (.int .u8 x.t) := hB.cell 0
  have e1 : (w.alloc (.cells #[.int .u8 x.t, .int .u64 x.lo, .int .u64 x.hi] 43)).cell? ⟨w.heap.size, 1, none⟩ = some (.int .u64 x.lo) := hB.cell 1
  have e2 : (w.alloc (.cells #[.int .u8 x.t, .int .u64 x.lo, .int .u64 x.hi] 43)).cell? ⟨w.heap.size, 2, none⟩ = some (.int .u64 x.hi) := hB.cell 2
  have HF := Lib.hid hf
  have HE := Lib.hid hel
  clear hm hm1 hB hf hel
  go_enter Try.func38, Try.ntmps38
  go_wp2_with fail
  generalize hw1 : w.alloc (.cells #[.int .u8 x.t, .int .u64 x.lo, .int .u64 x.hi] 43) = w1 at *
  have HW := Lib.hid hw1
  clear hw1
  go_still_tail 6, (by kernel_rfl)
  change wpList _ _ _ _ _ (World.drew _)
  go_wp2_with fail
  refine (ris_ref x.t x.lo x.hi el _ HE.out).mono ?_
  rintro e w1 ⟨rfl, hk⟩
  rw [HF.out]
  have hk1 := hka.drew.then0 hk
  go_wp2_with fail
  go_ret
  exact ⟨rfl, hk1⟩

set_option maxHeartbeats 800000 in
theorem rfill_trap (at_ n : Int) (x : V3) (hm : RefAt w tb base N el mn mx bd lv f) (hN : N ≤ 16384) (hel : el = 112 ∨ el = 111) (hf : fitB x.t x.lo x.hi el = true) (h1 : 0 ≤ at_) (h2 : 0 ≤ n) (h5 : at_ ≤ 4294967295) (h6 : n ≤ 4294967295) (ho : inB at_ n N = false) :
    Calls Try.prog 38 #[.pointer (some ⟨tb, 0, none⟩), .int .u32 at_, .agg #[.int .u8 x.t, .int .u64 x.lo, .int .u64 x.hi], .int .u32 n] w fun e w' => e = .returned (.int .i64 6) ∧ Kept S0 w w' := by
  obtain ⟨A, c, rfl, _, _, _⟩ := hm.own.out
  have hka : Kept S0 w (w.alloc (.cells #[.int .u8 x.t, .int .u64 x.lo, .int .u64 x.hi] 43)) := (Kept.refl S0 w).alloc _
  have hm1 := hm.kept0 hka
  have c0 := hm1.c0
  have hB := Blk.new w 43 #[.int .u8 x.t, .int .u64 x.lo, .int .u64 x.hi]
  have e0 : (w.alloc (.cells #[.int .u8 x.t, .int .u64 x.lo, .int .u64 x.hi] 43)).cell? ⟨w.heap.size, 0, none⟩ = some (.int .u8 x.t) := hB.cell 0
  have e1 : (w.alloc (.cells #[.int .u8 x.t, .int .u64 x.lo, .int .u64 x.hi] 43)).cell? ⟨w.heap.size, 1, none⟩ = some (.int .u64 x.lo) := hB.cell 1
  have e2 : (w.alloc (.cells #[.int .u8 x.t, .int .u64 x.lo, .int .u64 x.hi] 43)).cell? ⟨w.heap.size, 2, none⟩ = some (.int .u64 x.hi) := hB.cell 2
  have HF := Lib.hid hf
  have HE := Lib.hid hel
  have HO := Lib.hid ho
  have HM := Lib.hid hm1
  clear hm hm1 hB hf hel ho
  go_enter Try.func38, Try.ntmps38
  go_wp2_with fail
  generalize hw1 : w.alloc (.cells #[.int .u8 x.t, .int .u64 x.lo, .int .u64 x.hi] 43) = w1 at *
  have HW := Lib.hid hw1
  clear hw1
  go_still_tail 6, (by kernel_rfl)
  change wpList _ _ _ _ _ (World.drew _)
  go_wp2_with fail
  refine (ris_ref x.t x.lo x.hi el _ HE.out).mono ?_
  rintro e w2 ⟨rfl, hk⟩
  rw [HF.out]
  have hk1 := hka.drew.then0 hk
  have d5 := (HM.out.drew.kept0 hk).c4
  clear c0 e0 e1 e2
  go_wp2_with fail
  refine (rwithin_any _ _ _ _ h1 h2 (by omega) (by omega) h5 h6).mono ?_
  rintro e w3 ⟨rfl, rfl⟩
  rw [HO.out]
  go_wp2_with fail
  go_ret
  exact ⟨rfl, hk1⟩

theorem overV_next (f : Nat → V3) (a j : Nat) (u : Nat → V3) : overV (overV f a j u) (a + j) 1 (fun _ => u j) = overV f a (j + 1) u := by
  funext i
  unfold overV
  by_cases h : a + j ≤ i ∧ i < a + j + 1
  · obtain rfl : i = a + j := by omega
    rw [if_pos h, if_pos (by omega), show a + j - a = j by omega]
  · rw [if_neg h]
    by_cases h2 : a ≤ i ∧ i < a + j
    · rw [if_pos h2, if_pos (by omega)]
    · rw [if_neg h2, if_neg (by omega)]

structure RFillRel (w wr : World) (tb base N : Nat) (el mn mx : Int) (bd : Bool) (lv : Value) (f : Nat → V3) (a : Nat) (x : V3) (bx : Nat) (j : Nat) : Prop where
  tab : RefAt wr tb base N el mn mx bd lv (overV f a j (fun _ => x))
  kept : Kept (SO lv) w wr
  box : Blk wr bx 43 #[.int .u8 x.t, .int .u64 x.lo, .int .u64 x.hi]

theorem RefAt.put3 {wr : World} (h : RefAt wr tb base N el mn mx bd lv f) {g cap : Nat} {fr : Nat → Value} (hlv : lv = .slice (some ⟨g, 0, none⟩) N cap) (hbg : base ≤ g) (hNc : N ≤ cap) (hcm : cap ≤ maxLen) (hrow : wr.rowIs g 43 (cap * 3) fr) (hF : ∀ i, i < N * 3 → fr i = vcell f i) (k : Nat) (hk : k < N) (x : V3) :
    RefAt (((wr.setCell ⟨g, k * 3, none⟩ (.int .u8 x.t)).setCell ⟨g, k * 3 + 1, none⟩ (.int .u64 x.lo)).setCell ⟨g, k * 3 + 2, none⟩ (.int .u64 x.hi)).drew tb base N el mn mx bd lv (overV f k 1 (fun _ => x)) ∧
    Kept (SO lv) wr (((wr.setCell ⟨g, k * 3, none⟩ (.int .u8 x.t)).setCell ⟨g, k * 3 + 1, none⟩ (.int .u64 x.lo)).setCell ⟨g, k * 3 + 2, none⟩ (.int .u64 x.hi)).drew := by
  have hob : lv.ownBlock = some g := by rw [hlv]; rfl
  have hgt : g ≠ tb := fun e => h.ne (by rw [hob, e])
  have hk3 : Kept (SO lv) wr ((((wr.setCell ⟨g, k * 3, none⟩ (.int .u8 x.t)).setCell ⟨g, k * 3 + 1, none⟩ (.int .u64 x.lo)).setCell ⟨g, k * 3 + 2, none⟩ (.int .u64 x.hi)).drew) :=
    ((((Kept.refl (SO lv) wr).setCell (p := ⟨g, k * 3, none⟩) (.inl hob) _).setCell (p := ⟨g, k * 3 + 1, none⟩) (.inl hob) _).setCell (p := ⟨g, k * 3 + 2, none⟩) (.inl hob) _).drew
  refine ⟨⟨hk3.blk h.obj (fun e => hgt (Option.some.inj (hob.symm.trans e))), ?_, h.lo⟩, hk3⟩
  rw [hlv]
  exact own_set3 hbg hNc hcm hrow hF k hk x

set_option maxHeartbeats 1600000 in
theorem rfill_in (a n : Nat) (x : V3) (hm : RefAt w tb base N el mn mx bd lv f) (hN : N ≤ 16384) (hel : el = 112 ∨ el = 111) (hf : fitB x.t x.lo x.hi el = true) (ha : a + n ≤ N) :
    Calls Try.prog 38 #[.pointer (some ⟨tb, 0, none⟩), .int .u32 (a : Int), .agg #[.int .u8 x.t, .int .u64 x.lo, .int .u64 x.hi], .int .u32 (n : Int)] w fun e w' => e = .returned (.int .i64 0) ∧ RefAt w' tb base N el mn mx bd lv (overV f a n (fun _ => x)) ∧ Kept (SO lv) w w' := by
  have hout := hm.own.out
  obtain ⟨A, c, hlv, _, _, _⟩ := hout
  have hka : Kept S0 w (w.alloc (.cells #[.int .u8 x.t, .int .u64 x.lo, .int .u64 x.hi] 43)) := (Kept.refl S0 w).alloc _
  have hm1 := hm.kept0 hka
  have c0 := hm1.c0
  have hB := Blk.new w 43 #[.int .u8 x.t, .int .u64 x.lo, .int .u64 x.hi]
  have e0 : (w.alloc (.cells #[.int .u8 x.t, .int .u64 x.lo, .int .u64 x.hi] 43)).cell? ⟨w.heap.size, 0, none⟩ = some (.int .u8 x.t) := hB.cell 0
  have e1 : (w.alloc (.cells #[.int .u8 x.t, .int .u64 x.lo, .int .u64 x.hi] 43)).cell? ⟨w.heap.size, 1, none⟩ = some (.int .u64 x.lo) := hB.cell 1
  have e2 : (w.alloc (.cells #[.int .u8 x.t, .int .u64 x.lo, .int .u64 x.hi] 43)).cell? ⟨w.heap.size, 2, none⟩ = some (.int .u64 x.hi) := hB.cell 2
  have hboxlt : ∀ g, lv.ownBlock = some g → g ≠ w.heap.size := fun g hg e => by have := (hm.own.lt g hg).2; omega
  have HF := Lib.hid hf
  have HE := Lib.hid hel
  have HM := Lib.hid hm1
  have HBX := Lib.hid hB
  have HBL := Lib.hid hboxlt
  have HLV := Lib.hid hlv
  have u1 : IntKind.i64.wrap (n : Int) = (n : Int) := IntWalk.i64_in _ (by omega)
  have u2 : IntKind.i64.wrap (a : Int) = (a : Int) := IntWalk.i64_in _ (by omega)
  clear hm hm1 hB hf hel hboxlt
  go_enter Try.func38, Try.ntmps38
  go_wp2_with fail
  generalize hw1 : w.alloc (.cells #[.int .u8 x.t, .int .u64 x.lo, .int .u64 x.hi] 43) = w1 at *
  have HW := Lib.hid hw1
  clear hw1
  go_still_tail 6, (by kernel_rfl)
  change wpList _ _ _ _ _ (World.drew _)
  go_wp2_with fail
  refine (ris_ref x.t x.lo x.hi el _ HE.out).mono ?_
  rintro e w2 ⟨rfl, hk⟩
  rw [HF.out]
  have hk1 := hka.drew.then0 hk
  have hm2 := HM.out.drew.kept0 hk
  have hb2 := hk.blk (((Kept.refl S0 w1).drew).blk HBX.out (fun x => x)) (fun x => x)
  have d5 := hm2.c4
  rw [hlv] at d5
  clear c0 e0 e1 e2
  go_wp2_with fail
  refine (rwithin_any _ _ _ _ (by omega) (by omega) (by omega) (by omega) (by omega) (by omega)).mono ?_
  rintro e w3 ⟨rfl, rfl⟩
  rw [inB_true ha]
  go_wp2_with fail
  have HK := Lib.hid hk1
  have HM2 := Lib.hid hm2
  have HB2 := Lib.hid hb2
  clear HM HBX HW HF HE hka hk hk1 hm2 hb2 d5 hlv
  go_loopw [9] (fun i wr => ∃ j : Nat, i = .int .i64 (j : Int) ∧ j ≤ n ∧ RFillRel w wr tb base N el mn mx bd lv f a x w.heap.size j) (fun i _ => n - (intOf i).toNat)
  case atStart => exact ⟨0, rfl, by omega, by rw [overV_none]; exact HM2.out, HK.out.of0 _, HB2.out⟩
  case round =>
    clear HM2 HK HB2
    obtain ⟨j, rfl, hj, hr⟩ := hrel
    by_cases hlt : j < n
    · rcases hr.tab.own with ⟨_, h0⟩ | ⟨g, cap, fr, hlv, hbg, hNc, hcm, hrow, hF, hQ⟩
      · omega
      obtain ⟨k, hkk⟩ : ∃ k : Nat, k = a + j := ⟨_, rfl⟩
      have u3 : IntKind.i64.wrap ((a : Int) + (j : Int)) = (k : Int) := by rw [IntWalk.i64_in _ (by omega)]; omega
      have hkN : k < N := by omega
      have hji : (j : Int) < (n : Int) := by omega
      have uj : IntKind.i64.wrap ((j : Int) + 1) = (j : Int) + 1 := IntWalk.i64_in _ (by omega)
      have HKK := Lib.hid hkk
      have c5 := hr.tab.c4
      rw [hlv] at c5
      have b0 := hr.box.cell 0
      have b1 := hr.box.cell 1
      have b2 := hr.box.cell 2
      have d0 : wr.cell? ⟨g, k * 3, none⟩ = some (fr (k * 3)) := hrow.cell (by omega)
      have d1 : wr.cell? ⟨g, k * 3 + 1, none⟩ = some (fr (k * 3 + 1)) := hrow.cell (by omega)
      have d2 : wr.cell? ⟨g, k * 3 + 2, none⟩ = some (fr (k * 3 + 2)) := hrow.cell (by omega)
      have z0 := hrow.frozen (k * 3)
      have z1 := hrow.frozen (k * 3 + 1)
      have z2 := hrow.frozen (k * 3 + 2)
      have HR := Lib.hid hr
      have HP := Lib.hid (hr.tab.put3 hlv hbg hNc hcm hrow hF k hkN x)
      have HLV2 := Lib.hid hlv
      clear hr hrow hF hQ hkk hlv
      go_wp2_with fail
      go_still_tail 9, (by kernel_rfl)
      change wpList _ _ _ _ _ (World.drew _)
      go_wp2_with fail
      go_roundw
      case rel =>
        have hrr := HR.out
        have hkk := HKK.out
        subst hkk
        have hp := HP.out
        refine ⟨j + 1, by go_num, by omega, ⟨?_, hrr.kept.trans hp.2, hp.2.blk hrr.box (fun e => HBL.out _ e rfl)⟩⟩
        rw [← overV_more]
        exact hp.1
      case measure => simp [intOf]; omega
    · obtain rfl : j = n := by omega
      go_wp2_with fail
      go_ret
      exact ⟨rfl, hr.tab, hr.kept⟩
end
end Go.Proofs.Ytpeekldngelkkaa
