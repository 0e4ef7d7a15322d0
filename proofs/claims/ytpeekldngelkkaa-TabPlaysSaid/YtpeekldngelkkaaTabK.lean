/- The contract of the statements' lives. No condition. -/
import Derived.Test.YtpeekldngelkkaaTabJ
import Derived.Test.YtpeekldngelkkaaTabE
import Derived.Test.YtpeekldngelkkaaTabG
import Derived.Test.YtpeekldngelkkaaTabH
import Derived.Test.YtpeekldngelkkaaTabI
import Derived.Deep.DeepCutAuto
import Derived.Deep.RegionHeld3
namespace Go.Proofs.Ytpeekldngelkkaa
open Go.RowKit

def livesV : Nat → V3 := fun i => if i = 2 then ⟨112, 6, 0⟩ else ⟨112, 0, 0⟩

set_option maxHeartbeats 3200000 in
set_option maxRecDepth 100000 in
theorem lives_any (w : World) : Calls Try.prog 13 #[] w fun e w' => e = .returned (.bool true) ∧ Kept S0 w w' := by
  have hmay : mayTabB 112 2 0 false = true := by decide
  have HM := Lib.hid hmay
  clear hmay
  go_enter Try.func13, Try.ntmps13
  go_wp2_with fail
  refine (null_any _).mono ?_
  rintro e w1 ⟨rfl, hk1⟩
  go_wp2_with fail
  refine (newtab_made 112 0 2 false ⟨112, 0, 0⟩ _ (by omega) (by omega) (by omega) HM.out rfl).mono ?_
  rintro e w2 ⟨tb, lv, rfl, ht, hk2⟩
  have ht2 : TabAt w2 tb w.heap.size 2 112 2 0 false lv (fun _ => ⟨112, 0, 0⟩) := ⟨ht.obj, ht.own.mono hk1.size, Nat.le_trans hk1.size ht.lo⟩
  have hk3 : Kept S0 w w2 := hk1.then0 hk2
  clear ht hk1 hk2 HM
  go_wp2_with fail
  have hka := hk3.alloc (.cells #[.int .u8 112, .int .u64 6, .int .u64 0] 43)
  have hm3 := ht2.kept0 ((Kept.refl S0 w2).alloc (.cells #[.int .u8 112, .int .u64 6, .int .u64 0] 43))
  have hb5 := Blk.new w2 43 #[.int .u8 112, .int .u64 6, .int .u64 0]
  have hl5 := (Kept.refl S0 w2).size
  generalize hB5 : w2.heap.size = b5 at *
  generalize w2.alloc (.cells #[.int .u8 112, .int .u64 6, .int .u64 0] 43) = w3 at *
  have h5w : w.heap.size ≤ b5 := by rw [← hB5]; exact hk3.size
  have hne5 : b5 ≠ tb := by rw [← hB5]; have := ht2.obj.lt; omega
  have hno5 : lv.ownBlock ≠ some b5 := fun e => by rw [← hB5] at e; have := (ht2.own.lt _ e).2; omega
  clear ht2 hk3 hB5 hl5
  refine (set_in 1 ⟨112, 6, 0⟩ hm3 (by omega) (.inl rfl) rfl (by omega)).mono ?_
  rintro e w4 ⟨rfl, hm4, hk4⟩
  have hka4 : Kept S0 w w4 := hka.trans_ hk4 (fun i hi => .inr (hm3.own.lt i hi).1)
  have hb54 := hk4.blk hb5 hno5
  clear hka hm3 hk4 hb5
  go_wp2_with fail
  have hg5 : Calls Try.prog 16 #[.pointer (some ⟨tb, 0, none⟩), .int .u32 ((1 : Nat) : Int)] w4 fun e w' => e = .returned (.tuple #[.agg #[.int .u8 112, .int .u64 6, .int .u64 0], .int .i64 0]) ∧ Kept S0 w4 w' := get_in 1 hm4 (by omega) (by omega)
  refine hg5.mono ?_
  rintro e w5 ⟨rfl, hk5⟩
  clear hg5
  go_wp2_with fail
  have hk6 := hk5.alloc (.cells #[.int .u8 112, .int .u64 6, .int .u64 0] 43)
  have hm6 := hm4.kept0 hk6
  have hb56 := hk6.blk hb54 (fun x => x)
  have hbv := Blk.new w5 43 #[.int .u8 112, .int .u64 6, .int .u64 0]
  have hka6 := hka4.then0 hk6
  generalize hBV : w5.heap.size = bv at *
  have hvw : w.heap.size ≤ bv := by rw [← hBV]; exact (hka4.then0 hk5).size
  have hnev : bv ≠ tb := by rw [← hBV]; have := hm4.obj.lt; have := hk5.size; omega
  have hnov : lv.ownBlock ≠ some bv := fun e => by rw [← hBV] at e; have := (hm4.own.lt _ e).2; have := hk5.size; omega
  clear hm4 hk5 hk6 hb54 hka4 hBV
  generalize w5.alloc (.cells #[.int .u8 112, .int .u64 6, .int .u64 0] 43) = w6 at *
  refine (get_out 2 hm6 (by omega) (by omega) (by omega)).mono ?_
  rintro e w7 ⟨rfl, hk7⟩
  go_wp2_with fail
  have hk8 := hk7.alloc (.cells #[.int .u8 0, .int .u64 0, .int .u64 0] 43)
  have hm8 := hm6.kept0 hk8
  have hb58 := hk8.blk hb56 (fun x => x)
  have hbv8 := hk8.blk hbv (fun x => x)
  have hka8 := hka6.then0 hk8
  clear hm6 hk7 hk8 hb56 hbv hka6
  first | generalize w7.alloc (.cells #[.int .u8 0, .int .u64 0, .int .u64 0] 43) = w8 at * | skip
  refine (set_bad 0 ⟨111, 0, 0⟩ hm8 (.inl rfl) rfl).mono ?_
  rintro e w9 ⟨rfl, hk9⟩
  have hm9 := hm8.kept0 hk9
  have hb59 := hk9.blk hb58 (fun x => x)
  have hbv9 := hk9.blk hbv8 (fun x => x)
  have hka9 := hka8.then0 hk9
  clear hm8 hk9 hb58 hbv8 hka8
  go_wp2_with fail
  refine (null_any _).mono ?_
  rintro e w10 ⟨rfl, hk10⟩
  have hm10 := hm9.kept0 hk10
  have hb510 := hk10.blk hb59 (fun x => x)
  have hbv10 := hk10.blk hbv9 (fun x => x)
  have hka10 := hka9.then0 hk10
  clear hm9 hk10 hb59 hbv9 hka9
  go_wp2_with fail
  refine (grow_yes 1 ⟨112, 0, 0⟩ hm10 (by omega) (by omega) (by omega) (by omega) (.inl rfl) rfl rfl hka10.size).mono ?_
  rintro e w11 ⟨rfl, lj, hm11, hk11, hbl⟩
  have hno : ∀ i, ST tb lv i → i = tb ∨ lv.ownBlock = some i := fun i h => h
  have hb511 := hk11.blk hb510 (fun h => (hno _ h).elim hne5 hno5)
  have hbv11 := hk11.blk hbv10 (fun h => (hno _ h).elim hnev hnov)
  have hka11 : Kept S0 w w11 := hka10.trans_ hk11 (fun i hi => .inr ((hno _ hi).elim (fun e => e ▸ hm10.lo) (fun e => (hm10.own.lt _ e).1)))
  have hj5 : ¬ SO lj b5 := fun e => hbl.elim (fun h => hno5 (h.symm.trans e)) (fun ⟨g, h1, h2⟩ => by have e' : g = b5 := Option.some.inj (h1.symm.trans e); have := hb510.lt; omega)
  have hjv : ¬ SO lj bv := fun e => hbl.elim (fun h => hnov (h.symm.trans e)) (fun ⟨g, h1, h2⟩ => by have e' : g = bv := Option.some.inj (h1.symm.trans e); have := hbv10.lt; omega)
  clear hm10 hk11 hb510 hbv10 hka10 hbl hno
  go_wp2_with fail
  refine (copy_in 1 0 2 hm11 hm11 (by omega) (by omega) (by omega) (by omega)).mono ?_
  rintro e w12 ⟨rfl, hm12, hk12⟩
  have hka12 : Kept S0 w w12 := hka11.trans_ hk12 (fun i hi => .inr (hm11.own.lt i hi).1)
  have hb512 := hk12.blk hb511 hj5
  have hbv12 := hk12.blk hbv11 hjv
  clear hm11 hk12 hb511 hbv11 hka11 hj5 hjv
  have hB := ((Kept.refl S0 w12).drew).blk hb512 (fun x => x)
  have hV := ((Kept.refl S0 w12).drew).blk hbv12 (fun x => x)
  have hKall := hka12
  have HM := Lib.hid hm12
  have HK := Lib.hid hka12
  clear hm12 hb512 hbv12 hka12 hne5 hno5 hnev hnov
  go_upto_region 9 with fail
  go_region_held3 (fun w' => w'.cell? ⟨b5, 0, none⟩ = some (.int .u8 112) ∧ w'.cell? ⟨b5, 1, none⟩ = some (.int .u64 6) ∧ w'.cell? ⟨b5, 2, none⟩ = some (.int .u64 0) ∧ w'.cell? ⟨bv, 0, none⟩ = some (.int .u8 112) ∧ w'.cell? ⟨bv, 1, none⟩ = some (.int .u64 6) ∧ w'.cell? ⟨bv, 2, none⟩ = some (.int .u64 0))
    (first | exact ⟨hB.cell 0, hB.cell 1, hB.cell 2, hV.cell 0, hV.cell 1, hV.cell 2⟩ | exact ⟨(hB.alloc _).cell 0, (hB.alloc _).cell 1, (hB.alloc _).cell 2, (hV.alloc _).cell 0, (hV.alloc _).cell 1, (hV.alloc _).cell 2⟩)
    (first
    | (go_at_call 10; refine (all_made HM.out.drew (by omega)).mono ?_; rintro e w13 ⟨v13, rfl, ho, hk⟩; obtain ⟨A13, c13, hv13, _, _, _⟩ := ho.out; subst hv13; have hB := hk.blk hB (fun x => x); have hV := hk.blk hV (fun x => x); have hKall := hKall.drew.then0 hk)
    | (go_at_call 19; refine (null_any _).mono ?_; rintro e w14 ⟨rfl, hk⟩; have hB := hk.blk hB (fun x => x); have hV := hk.blk hV (fun x => x); have hKall := hKall.then0 hk; have ho := ho.kept hk (fun _ _ x => x))
    | (go_at_call 12; refine (values_same _ _ 3 _ _ _ livesV _ (by obtain ⟨_, _, e, _, _, hs⟩ := (ho.kept ((Kept.refl S0 _).alloc _) (fun _ _ x => x)).out; cases e; exact hs) (fun _ => ⟨_, 0, rfl, fun i hi => (by match i, hi with | 0, _ => exact (Blk.new _ _ _).cell 0 | 1, _ => exact (Blk.new _ _ _).cell 1 | 2, _ => exact (Blk.new _ _ _).cell 2 | 3, _ => exact (Blk.new _ _ _).cell 3 | 4, _ => exact (Blk.new _ _ _).cell 4 | 5, _ => exact (Blk.new _ _ _).cell 5 | 6, _ => exact (Blk.new _ _ _).cell 6 | 7, _ => exact (Blk.new _ _ _).cell 7 | 8, _ => exact (Blk.new _ _ _).cell 8)⟩) (by omega) (fun i hi => (by match i, hi with | 0, _ => rfl | 1, _ => rfl | 2, _ => rfl))).mono ?_; rintro e w16 ⟨rfl, hk⟩; have hKall := (hKall.alloc (.cells #[.int .u8 112, .int .u64 0, .int .u64 0, .int .u8 112, .int .u64 0, .int .u64 0, .int .u8 112, .int .u64 6, .int .u64 0] 43)).then0 hk; have hB := hk.blk (hB.alloc (.cells #[.int .u8 112, .int .u64 0, .int .u64 0, .int .u8 112, .int .u64 0, .int .u64 0, .int .u8 112, .int .u64 6, .int .u64 0] 43)) (fun x => x); have hV := hk.blk (hV.alloc (.cells #[.int .u8 112, .int .u64 0, .int .u64 0, .int .u8 112, .int .u64 0, .int .u64 0, .int .u8 112, .int .u64 6, .int .u64 0] 43)) (fun x => x)))
  all_goals
    go_wp2
    go_ret
    exact ⟨rfl, hKall⟩
end Go.Proofs.Ytpeekldngelkkaa
