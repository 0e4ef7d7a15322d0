/- Contracts of a table's Fill. No condition. -/
import Derived.Test.YtpeekldngelkkaaTabB
namespace Go.Proofs.Ytpeekldngelkkaa
open Go.RowKit

section
variable {w : World} {tb base N : Nat} {el mn mx : Int} {bd : Bool} {lv : Value} {f : Nat → V3}

set_option maxHeartbeats 800000 in
theorem fill_bad (at_ n : Int) (x : V3) (hm : TabAt w tb base N el mn mx bd lv f) (hel : el = 112 ∨ el = 111) (hf : fitB x.t x.lo x.hi el = false) :
    Calls Try.prog 18 #[.pointer (some ⟨tb, 0, none⟩), .int .u32 at_, .agg #[.int .u8 x.t, .int .u64 x.lo, .int .u64 x.hi], .int .u32 n] w fun e w' => e = .returned (.int .i64 2) ∧ Kept S0 w w' := by
  have hka : Kept S0 w (w.alloc (.cells #[.int .u8 x.t, .int .u64 x.lo, .int .u64 x.hi] 43)) := (Kept.refl S0 w).alloc _
  have hm1 := hm.kept0 hka
  have c0 := hm1.c0
  have c1 := hm1.c1
  have hB := Blk.new w 43 #[.int .u8 x.t, .int .u64 x.lo, .int .u64 x.hi]
  have e0 : (w.alloc (.cells #[.int .u8 x.t, .int .u64 x.lo, .int .u64 x.hi] 43)).cell? ⟨w.heap.size, 0, none⟩ = some (.int .u8 x.t) := hB.cell 0
  have e1 : (w.alloc (.cells #[.int .u8 x.t, .int .u64 x.lo, .int .u64 x.hi] 43)).cell? ⟨w.heap.size, 1, none⟩ = some (.int .u64 x.lo) := hB.cell 1
  have e2 : (w.alloc (.cells #[.int .u8 x.t, .int .u64 x.lo, .int .u64 x.hi] 43)).cell? ⟨w.heap.size, 2, none⟩ = some (.int .u64 x.hi) := hB.cell 2
  have HF := Lib.hid hf
  have HE := Lib.hid hel
  clear hm hm1 hB hf hel
  go_enter Try.func18, Try.ntmps18
  go_wp2_with fail
  refine (off_made _ _ c0).mono ?_
  rintro e w1 ⟨rfl, rfl⟩
  go_wp2_with fail
  generalize hw1 : w.alloc (.cells #[.int .u8 x.t, .int .u64 x.lo, .int .u64 x.hi] 43) = w1 at *
  have HW := Lib.hid hw1
  clear hw1
  go_still_tail 6, (by kernel_rfl)
  change wpList _ _ _ _ _ (World.drew _)
  go_wp2_with fail
  refine (fits_ref x.t x.lo x.hi el _ HE.out).mono ?_
  rintro e w1 ⟨rfl, hk⟩
  rw [HF.out]
  have hk1 := hka.drew.then0 hk
  go_wp2_with fail
  go_ret
  exact ⟨rfl, hk1⟩

set_option maxHeartbeats 800000 in
theorem fill_trap (at_ n : Int) (x : V3) (hm : TabAt w tb base N el mn mx bd lv f) (hN : N ≤ 16384) (hel : el = 112 ∨ el = 111) (hf : fitB x.t x.lo x.hi el = true) (h1 : 0 ≤ at_) (h2 : 0 ≤ n) (h5 : at_ ≤ 4294967295) (h6 : n ≤ 4294967295) (ho : inB at_ n N = false) :
    Calls Try.prog 18 #[.pointer (some ⟨tb, 0, none⟩), .int .u32 at_, .agg #[.int .u8 x.t, .int .u64 x.lo, .int .u64 x.hi], .int .u32 n] w fun e w' => e = .returned (.int .i64 6) ∧ Kept S0 w w' := by
  obtain ⟨A, c, rfl, _, _, _⟩ := hm.own.out
  have hka : Kept S0 w (w.alloc (.cells #[.int .u8 x.t, .int .u64 x.lo, .int .u64 x.hi] 43)) := (Kept.refl S0 w).alloc _
  have hm1 := hm.kept0 hka
  have c0 := hm1.c0
  have c1 := hm1.c1
  have c5 := hm1.c5
  have hB := Blk.new w 43 #[.int .u8 x.t, .int .u64 x.lo, .int .u64 x.hi]
  have e0 : (w.alloc (.cells #[.int .u8 x.t, .int .u64 x.lo, .int .u64 x.hi] 43)).cell? ⟨w.heap.size, 0, none⟩ = some (.int .u8 x.t) := hB.cell 0
  have e1 : (w.alloc (.cells #[.int .u8 x.t, .int .u64 x.lo, .int .u64 x.hi] 43)).cell? ⟨w.heap.size, 1, none⟩ = some (.int .u64 x.lo) := hB.cell 1
  have e2 : (w.alloc (.cells #[.int .u8 x.t, .int .u64 x.lo, .int .u64 x.hi] 43)).cell? ⟨w.heap.size, 2, none⟩ = some (.int .u64 x.hi) := hB.cell 2
  have HF := Lib.hid hf
  have HE := Lib.hid hel
  have HO := Lib.hid ho
  have HM := Lib.hid hm1
  clear hm hm1 hB hf hel ho
  go_enter Try.func18, Try.ntmps18
  go_wp2_with fail
  refine (off_made _ _ c0).mono ?_
  rintro e w1 ⟨rfl, rfl⟩
  go_wp2_with fail
  generalize hw1 : w.alloc (.cells #[.int .u8 x.t, .int .u64 x.lo, .int .u64 x.hi] 43) = w1 at *
  have HW := Lib.hid hw1
  clear hw1
  go_still_tail 6, (by kernel_rfl)
  change wpList _ _ _ _ _ (World.drew _)
  go_wp2_with fail
  refine (fits_ref x.t x.lo x.hi el _ HE.out).mono ?_
  rintro e w2 ⟨rfl, hk⟩
  rw [HF.out]
  have hk1 := hka.drew.then0 hk
  have d5 := (HM.out.drew.kept0 hk).c5
  clear c0 c1 c5 e0 e1 e2
  go_wp2_with fail
  refine (within_any _ _ _ _ h1 h2 (by omega) (by omega) h5 h6).mono ?_
  rintro e w3 ⟨rfl, rfl⟩
  rw [HO.out]
  go_wp2_with fail
  go_ret
  exact ⟨rfl, hk1⟩

theorem overV_none (f : Nat → V3) (a : Nat) (v : Nat → V3) : overV f a 0 v = f := by funext i; unfold overV; rw [if_neg (by omega)]
theorem overV_more (f : Nat → V3) (a j : Nat) (x : V3) : overV (overV f a j (fun _ => x)) (a + j) 1 (fun _ => x) = overV f a (j + 1) (fun _ => x) := by
  funext i
  unfold overV
  by_cases h : a + j ≤ i ∧ i < a + j + 1
  · rw [if_pos h, if_pos (by omega)]
  · rw [if_neg h]
    by_cases h2 : a ≤ i ∧ i < a + j
    · rw [if_pos h2, if_pos (by omega)]
    · rw [if_neg h2, if_neg (by omega)]

/-- The blocks of an own slice. -/
def SO (lv : Value) : Nat → Prop := fun i => lv.ownBlock = some i

theorem own_set3 {w : World} {base g N cap : Nat} {fr : Nat → Value} {f : Nat → V3} (h1 : base ≤ g) (h2 : N ≤ cap) (h3 : cap ≤ maxLen) (hr : w.rowIs g 43 (cap * 3) fr) (hf : ∀ i, i < N * 3 → fr i = vcell f i) (k : Nat) (_hk : k < N) (x : V3) :
    Own (((w.setCell ⟨g, k * 3, none⟩ (.int .u8 x.t)).setCell ⟨g, k * 3 + 1, none⟩ (.int .u64 x.lo)).setCell ⟨g, k * 3 + 2, none⟩ (.int .u64 x.hi)).drew base 43 3 AnyV (.slice (some ⟨g, 0, none⟩) N cap) N (vcell (overV f k 1 (fun _ => x))) := by
  refine .inr ⟨g, cap, _, rfl, h1, h2, h3, World.rowIs.drew (((hr.set _ _).set _ _).set _ _), fun i hi => ?_, fun _ _ => trivial⟩
  rw [← overlay_vcell]
  unfold overlay
  by_cases e2 : i = k * 3 + 2
  · subst e2
    rw [if_pos rfl, if_pos (by omega), show k * 3 + 2 - k * 3 = 0 * 3 + 2 by omega, vcell_2]
  rw [if_neg e2]
  by_cases e1 : i = k * 3 + 1
  · subst e1
    rw [if_pos rfl, if_pos (by omega), show k * 3 + 1 - k * 3 = 0 * 3 + 1 by omega, vcell_1]
  rw [if_neg e1]
  by_cases e0 : i = k * 3
  · subst e0
    rw [if_pos rfl, if_pos (by omega), show k * 3 - k * 3 = 0 * 3 by omega, vcell_0]
  rw [if_neg e0, if_neg (by omega)]
  exact hf i hi

structure FillRel (w wr : World) (tb base N : Nat) (el mn mx : Int) (bd : Bool) (lv : Value) (f : Nat → V3) (a : Nat) (x : V3) (j : Nat) : Prop where
  tab : TabAt wr tb base N el mn mx bd lv (overV f a j (fun _ => x))
  kept : Kept (SO lv) w wr
  box : Blk wr w.heap.size 43 #[.int .u8 x.t, .int .u64 x.lo, .int .u64 x.hi]

set_option maxHeartbeats 1600000 in
theorem fill_in (a n : Nat) (x : V3) (hm : TabAt w tb base N el mn mx bd lv f) (hN : N ≤ 16384) (hel : el = 112 ∨ el = 111) (hf : fitB x.t x.lo x.hi el = true) (ha : a + n ≤ N) :
    Calls Try.prog 18 #[.pointer (some ⟨tb, 0, none⟩), .int .u32 (a : Int), .agg #[.int .u8 x.t, .int .u64 x.lo, .int .u64 x.hi], .int .u32 (n : Int)] w fun e w' => e = .returned (.int .i64 0) ∧ TabAt w' tb base N el mn mx bd lv (overV f a n (fun _ => x)) ∧ Kept (SO lv) w w' := by
  have hout := hm.own.out
  obtain ⟨A, c, hlv, _, _, _⟩ := hout
  have hka : Kept S0 w (w.alloc (.cells #[.int .u8 x.t, .int .u64 x.lo, .int .u64 x.hi] 43)) := (Kept.refl S0 w).alloc _
  have hm1 := hm.kept0 hka
  have c0 := hm1.c0
  have c1 := hm1.c1
  have c5 := hm1.c5
  have hB := Blk.new w 43 #[.int .u8 x.t, .int .u64 x.lo, .int .u64 x.hi]
  have e0 : (w.alloc (.cells #[.int .u8 x.t, .int .u64 x.lo, .int .u64 x.hi] 43)).cell? ⟨w.heap.size, 0, none⟩ = some (.int .u8 x.t) := hB.cell 0
  have e1 : (w.alloc (.cells #[.int .u8 x.t, .int .u64 x.lo, .int .u64 x.hi] 43)).cell? ⟨w.heap.size, 1, none⟩ = some (.int .u64 x.lo) := hB.cell 1
  have e2 : (w.alloc (.cells #[.int .u8 x.t, .int .u64 x.lo, .int .u64 x.hi] 43)).cell? ⟨w.heap.size, 2, none⟩ = some (.int .u64 x.hi) := hB.cell 2
  have hboxlt : ∀ g, lv.ownBlock = some g → g ≠ w.heap.size := fun g hg e => by have := (hm.own.lt g hg).2; omega
  have htblt : tb ≠ w.heap.size := by have := hm.obj.lt; omega
  have HF := Lib.hid hf
  have HE := Lib.hid hel
  have HM := Lib.hid hm1
  have HBX := Lib.hid hB
  have HBL := Lib.hid hboxlt
  have HLV := Lib.hid hlv
  have u1 : IntKind.i64.wrap (n : Int) = (n : Int) := IntWalk.i64_in _ (by omega)
  have u2 : IntKind.i64.wrap (a : Int) = (a : Int) := IntWalk.i64_in _ (by omega)
  clear hm hm1 hB hf hel hboxlt
  go_enter Try.func18, Try.ntmps18
  go_wp2_with fail
  refine (off_made _ _ c0).mono ?_
  rintro e w1 ⟨rfl, rfl⟩
  go_wp2_with fail
  generalize hw1 : w.alloc (.cells #[.int .u8 x.t, .int .u64 x.lo, .int .u64 x.hi] 43) = w1 at *
  have HW := Lib.hid hw1
  clear hw1
  go_still_tail 6, (by kernel_rfl)
  change wpList _ _ _ _ _ (World.drew _)
  go_wp2_with fail
  refine (fits_ref x.t x.lo x.hi el _ HE.out).mono ?_
  rintro e w2 ⟨rfl, hk⟩
  rw [HF.out]
  have hk1 := hka.drew.then0 hk
  have hm2 := HM.out.drew.kept0 hk
  have hb2 := hk.blk (((Kept.refl S0 w1).drew).blk HBX.out (fun x => x)) (fun x => x)
  have d5 := hm2.c5
  rw [hlv] at d5
  clear c0 c1 c5 e0 e1 e2
  go_wp2_with fail
  refine (within_any _ _ _ _ (by omega) (by omega) (by omega) (by omega) (by omega) (by omega)).mono ?_
  rintro e w3 ⟨rfl, rfl⟩
  rw [inB_true ha]
  go_wp2_with fail
  have HK := Lib.hid hk1
  have HM2 := Lib.hid hm2
  have HB2 := Lib.hid hb2
  clear HM HBX HW HF HE hka hk hk1 hm2 hb2 d5 hlv
  go_loopw [34] (fun i wr => ∃ j : Nat, j ≤ n ∧ i = .int .i64 (j : Int) ∧ FillRel w wr tb base N el mn mx bd lv f a x j) (fun i _ => n - (intOf i).toNat)
  case atStart => exact ⟨0, by omega, rfl, by rw [overV_none]; exact HM2.out, HK.out.of0 _, HB2.out⟩
  case round =>
    clear HM2 HK HB2
    obtain ⟨j, hj, rfl, hr⟩ := hrel
    by_cases hlt : j < n
    · rcases hr.tab.own with ⟨_, h0⟩ | ⟨g, cap, fr, hlv, hbg, hNc, hcm, hrow, hF, hQ⟩
      · omega
      obtain ⟨k, hkk⟩ : ∃ k : Nat, k = a + j := ⟨_, rfl⟩
      have u3 : IntKind.i64.wrap ((a : Int) + (j : Int)) = (k : Int) := by rw [IntWalk.i64_in _ (by omega)]; omega
      have hkN : k < N := by omega
      have HKK := Lib.hid hkk
      have c0 := hr.tab.c0
      have c5 := hr.tab.c5
      rw [hlv] at c5
      have b0 := hr.box.cell 0
      have b1 := hr.box.cell 1
      have b2 := hr.box.cell 2
      have d0 : wr.cell? ⟨g, k * 3, none⟩ = some (fr (k * 3)) := hrow.cell (by omega)
      have d1 : wr.cell? ⟨g, k * 3 + 1, none⟩ = some (fr (k * 3 + 1)) := hrow.cell (by omega)
      have d2 : wr.cell? ⟨g, k * 3 + 2, none⟩ = some (fr (k * 3 + 2)) := hrow.cell (by omega)
      have z0 := hrow.frozen (k * 3)
      have z1 := hrow.frozen (k * 3 + 1)
      have z2 := hrow.frozen (k * 3 + 2)
      have HR := Lib.hid hr
      have HROW := Lib.hid hrow
      have HFF := Lib.hid hF
      clear hr hrow hF hQ hkk
      go_wp2_with fail
      go_still_tail 10, (by kernel_rfl)
      change wpList _ _ _ _ _ (World.drew _)
      go_wp2_with fail
      go_roundw
      case rel =>
        have hrr := HR.out
        have hob : lv.ownBlock = some g := by rw [hlv]; rfl
        have hgb := hrr.tab.own.ne_blk hrr.tab.obj (by decide)
        have hgt : g ≠ tb := fun e => hgb (by rw [hob, e])
        have hkk := HKK.out
        subst hkk
        have hk3 : Kept (SO lv) wr ((((wr.setCell ⟨g, (a + j) * 3, none⟩ (.int .u8 x.t)).setCell ⟨g, (a + j) * 3 + 1, none⟩ (.int .u64 x.lo)).setCell ⟨g, (a + j) * 3 + 2, none⟩ (.int .u64 x.hi)).drew) :=
          ((((Kept.refl (SO lv) wr).setCell (p := ⟨g, (a + j) * 3, none⟩) (.inl hob) _).setCell (p := ⟨g, (a + j) * 3 + 1, none⟩) (.inl hob) _).setCell (p := ⟨g, (a + j) * 3 + 2, none⟩) (.inl hob) _).drew
        refine ⟨j + 1, by omega, by go_num, ⟨hk3.blk hrr.tab.obj (fun e => hgt (Option.some.inj (hob.symm.trans e))), ?_, hrr.tab.lo⟩, hrr.kept.trans hk3, hk3.blk hrr.box (fun e => HBL.out _ e rfl)⟩
        rw [← overV_more, hlv]
        exact own_set3 hbg hNc hcm HROW.out HFF.out (a + j) hkN x
      case measure => simp [intOf]; omega
    · obtain rfl : j = n := by omega
      go_wp2_with fail
      go_ret
      exact ⟨rfl, hr.tab, hr.kept⟩
end
end Go.Proofs.Ytpeekldngelkkaa
