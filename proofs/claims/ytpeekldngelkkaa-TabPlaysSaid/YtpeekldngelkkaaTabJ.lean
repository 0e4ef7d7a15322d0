/- Contracts of the statements' null and some. No condition. -/
import Derived.Test.YtpeekldngelkkaaTabF
import Derived.Test.YtpeekldngelkkaaTabC
namespace Go.Proofs.Ytpeekldngelkkaa
open Go.RowKit

theorem null_any (w : World) : Calls Try.prog 19 #[] w fun e w' => e = .returned (.agg #[.int .u8 112, .int .u64 0, .int .u64 0]) ∧ Kept S0 w w' := by
  go_enter Try.func19, Try.ntmps19
  go_wp2_with fail
  first
  | (go_ret; exact ⟨rfl, Kept.refl S0 w⟩)
  | (have hB := Blk.new w 43 #[.int .u8 112, .int .u64 0, .int .u64 0]
     have r0 := hB.cell 0
     have r1 := hB.cell 1
     have r2 := hB.cell 2
     exact bodyPost_ret (v := .agg #[.int .u8 112, .int .u64 0, .int .u64 0]) (by simp [results, Try.results19, go_sem, r0, r1, r2]) rfl ⟨rfl, (by repeat (first | exact Kept.refl _ _ | assumption | refine Kept.drew ?_ | refine Kept.alloc ?_ _ | refine Kept.setCell ?_ (.inr (by first | exact Nat.le_refl _ | (simp; done) | omega | (simp; omega))) _))⟩)

def someX (j : Nat) : Nat → V3 := fun i => if i < j then ⟨112, (i : Int) + 1, 0⟩ else ⟨112, 0, 0⟩

structure SomeRel (w wr : World) (tb n : Nat) (lv : Value) (j : Nat) : Prop where
  tab : TabAt wr tb w.heap.size n 112 (n : Int) 0 false lv (someX j)
  kept : Kept S0 w wr

set_option maxHeartbeats 1600000 in
theorem some_any (n : Nat) (hn : n ≤ 16384) (w : World) :
    Calls Try.prog 9 #[.int .i64 (n : Int)] w fun e w' => ∃ tb lv, e = .returned (.pointer (some ⟨tb, 0, none⟩)) ∧ TabAt w' tb w.heap.size n 112 (n : Int) 0 false lv (someX n) ∧ Kept S0 w w' := by
  have u1 : IntKind.u32.wrap (n : Int) = (n : Int) := IntWalk.u32_in _ (by omega)
  have hmay : mayTabB 112 (n : Int) 0 false = true := by simp [mayTabB, isRefB, mayB]; omega
  have HM := Lib.hid hmay
  clear hmay
  go_enter Try.func9, Try.ntmps9
  go_wp2_with fail
  refine (null_any _).mono ?_
  rintro e w1 ⟨rfl, hk1⟩
  go_wp2_with fail
  refine (newtab_made 112 0 n false ⟨112, 0, 0⟩ _ hn (by omega) (by omega) HM.out rfl).mono ?_
  rintro e w2 ⟨tb, lv, rfl, ht, hk2⟩
  have ht2 : TabAt w2 tb w.heap.size n 112 (n : Int) 0 false lv (someX 0) := ⟨ht.obj, (ht.own.mono hk1.size).congr (vcell_congr fun i _ => by unfold someX; rw [if_neg (by omega)]), Nat.le_trans hk1.size ht.lo⟩
  have HR := Lib.hid (show SomeRel w w2 tb n lv 0 from ⟨ht2, hk1.then0 hk2⟩)
  clear ht ht2 hk1 hk2 HM
  go_wp2_with fail
  go_loopw [5] (fun i wr => ∃ j : Nat, j ≤ n ∧ i = .int .i64 (j : Int) ∧ SomeRel w wr tb n lv j) (fun i _ => n - (intOf i).toNat)
  case atStart => exact ⟨0, by omega, rfl, HR.out⟩
  case round =>
    clear HR
    obtain ⟨j, hj, rfl, hr⟩ := hrel
    by_cases hlt : j < n
    · have v1 : IntKind.u32.wrap (j : Int) = (j : Int) := IntWalk.u32_in _ (by omega)
      have v2 : IntKind.i64.wrap ((j : Int) + 1) = (j : Int) + 1 := IntWalk.i64_in _ (by omega)
      have v3 : IntKind.u64.wrap ((j : Int) + 1) = (j : Int) + 1 := IntWalk.u64_in _ (by omega)
      have hfit : fitB 112 ((j : Int) + 1) 0 112 = true := by simp [fitB, refB]; omega
      have HS := Lib.hid (set_in j ⟨112, (j : Int) + 1, 0⟩ hr.tab hn (.inl rfl) hfit hlt)
      have HR := Lib.hid hr
      clear hr hfit
      go_wp2_with fail
      refine HS.out.mono ?_
      rintro e w3 ⟨rfl, hm3, hk3⟩
      have hk4 : Kept S0 w w3 := HR.out.kept.trans_ hk3 (fun i hi => .inr (HR.out.tab.own.lt i hi).1)
      have HR3 := Lib.hid (show SomeRel w w3 tb n lv (j + 1) from ⟨hm3.congr (fun i _ => by
        unfold overV someX
        by_cases h1 : i = j
        · subst h1; rw [if_pos (by omega), if_pos (by omega)]
        · by_cases h2 : i < j
          · rw [if_neg (by omega), if_pos h2, if_pos (by omega)]
          · rw [if_neg (by omega), if_neg h2, if_neg (by omega)]), hk4⟩)
      clear HS HR hm3 hk3 hk4
      go_wp2_with fail
      go_roundw
      case rel => exact ⟨j + 1, by omega, by go_num, HR3.out⟩
      case measure => simp [intOf]; omega
    · obtain rfl : j = n := by omega
      go_wp2_with fail
      go_ret
      exact ⟨tb, lv, by simp, hr.tab, hr.kept⟩
end Go.Proofs.Ytpeekldngelkkaa
