/- What the proofs lean on, part 1 of Fi. No condition. -/
import Derived.Test.YtlnkdnmeikpckaaGreatMSta
import Derived.Test.YtlnkdnmeikpckaaGreatMStb
import Derived.Test.YtlnkdnmeikpckaaGreatMStc
import Derived.Test.YtlnkdnmeikpckaaGreatMStd
import Derived.Test.YtlnkdnmeikpckaaGreatMStf
import Derived.WalkKit
import Derived.WalkSpells
import Derived.WalkLawsBesides
import Derived.BigQuiet
import Derived.Deep.QuietTactic
import Derived.Deep.OwnRows
import Derived.Deep.Draws
import Derived.Laws.OwnMore
import Derived.Laws.Rows
import Derived.Lib.Hide
import Derived.Test.YtlnkdnmeikpckaaGreatProg
import Derived.StillTailTactics
import Derived.Laws.BitsAllLaws
namespace Go.Proofs.YtlnkdnmeikpckaaGreat
open Go.RowKit
set_option maxRecDepth 100000
def S2 (g h : Nat) : Nat → Prop := fun k => k = g ∨ k = h
section
variable {S S' : Nat → Prop} {a w w' : World}
theorem Kept.below (h : Kept S a w) {B : Nat} (hB : B ≤ a.heap.size) (hs : ∀ k, S k → B ≤ k) : Below B a w :=
  ⟨h.os, h.tape, h.output, h.size, fun k hk => h.block k (by omega) (fun x => by have := hs k x; omega)⟩
theorem Kept.below0 (h : Kept S0 a w) : Below a.heap.size a w := h.below (Nat.le_refl _) (fun _ x => x.elim)
end
end Go.Proofs.YtlnkdnmeikpckaaGreat
namespace Go.Proofs.YtlnkdnmeikpckaaGreat
open Go.RowKit
set_option maxRecDepth 100000
/-- Do limits fit wanted ones? -/
def fitLB (mn mx : Int) (bd : Bool) (wn wx : Int) (wb : Bool) : Bool := decide (wn ≤ mn) && (!wb || (bd && decide (mx ≤ wx)))
set_option maxHeartbeats 1600000 in
theorem fit_any (mn mx wn wx : Int) (bd wb : Bool) (w : World) : Calls Tryz.prog 34 #[.agg #[.int .u32 mn, .int .u32 mx, .bool bd], .agg #[.int .u32 wn, .int .u32 wx, .bool wb]] w fun e w' => e = .returned (.bool (fitLB mn mx bd wn wx wb)) ∧ Kept S0 w w' := by
  have hB := (Blk.new w 29 #[.int .u32 mn, .int .u32 mx, .bool bd]).alloc (.cells #[.int .u32 wn, .int .u32 wx, .bool wb] 29)
  have hC := Blk.new1 w (.cells #[.int .u32 mn, .int .u32 mx, .bool bd] 29) 29 #[.int .u32 wn, .int .u32 wx, .bool wb]
  have a0 := hB.cell 0
  have a1 := hB.cell 1
  have a2 := hB.cell 2
  have b0 := hC.cell 0
  have b1 := hC.cell 1
  have b2 := hC.cell 2
  clear hB hC
  by_cases h : mn < wn
  · have HB := Lib.hid (show fitLB mn mx bd wn wx wb = false by unfold fitLB; rw [decide_eq_false (by omega)]; rfl)
    go_enter Tryz.func34, Tryz.ntmps34
    go_wp2
    go_ret
    exact ⟨ret_bool (by rw [HB.out]), (by repeat (first | exact Kept.refl _ _ | assumption | refine Kept.drew ?_ | refine Kept.alloc ?_ _ | refine Kept.setCell ?_ (.inr (by first | exact Nat.le_refl _ | (simp; done) | omega | (simp; omega))) _))⟩
  · have h2 : decide (mn < wn) = false := decide_eq_false h
    have HH := Lib.hid (show decide (wn ≤ mn) = true from decide_eq_true (by omega))
    clear h
    cases wb <;> cases bd
    all_goals
      have HB := Lib.hid (HH.out)
      go_enter Tryz.func34, Tryz.ntmps34
      go_wp2
      go_ret
      exact ⟨ret_bool (by unfold fitLB; rw [HH.out]; simp), (by repeat (first | exact Kept.refl _ _ | assumption | refine Kept.drew ?_ | refine Kept.alloc ?_ _ | refine Kept.setCell ?_ (.inr (by first | exact Nat.le_refl _ | (simp; done) | omega | (simp; omega))) _))⟩
set_option maxHeartbeats 1600000 in
theorem rfit_any (mn mx wn wx : Int) (bd wb : Bool) (w : World) : Calls Tryz.prog 37 #[.agg #[.int .u32 mn, .int .u32 mx, .bool bd], .agg #[.int .u32 wn, .int .u32 wx, .bool wb]] w fun e w' => e = .returned (.bool (fitLB mn mx bd wn wx wb)) ∧ Kept S0 w w' := by
  have hB := (Blk.new w 29 #[.int .u32 mn, .int .u32 mx, .bool bd]).alloc (.cells #[.int .u32 wn, .int .u32 wx, .bool wb] 29)
  have hC := Blk.new1 w (.cells #[.int .u32 mn, .int .u32 mx, .bool bd] 29) 29 #[.int .u32 wn, .int .u32 wx, .bool wb]
  have a0 := hB.cell 0
  have a1 := hB.cell 1
  have a2 := hB.cell 2
  have b0 := hC.cell 0
  have b1 := hC.cell 1
  have b2 := hC.cell 2
  clear hB hC
  by_cases h : wn ≤ mn
  · have HH := Lib.hid (show decide (wn ≤ mn) = true from decide_eq_true h)
    cases wb <;> cases bd
    all_goals
      go_enter Tryz.func37, Tryz.ntmps37
      go_wp2
      go_ret
      exact ⟨ret_bool (by unfold fitLB; rw [HH.out]; simp), (by repeat (first | exact Kept.refl _ _ | assumption | refine Kept.drew ?_ | refine Kept.alloc ?_ _ | refine Kept.setCell ?_ (.inr (by first | exact Nat.le_refl _ | (simp; done) | omega | (simp; omega))) _))⟩
  · have HB := Lib.hid (show fitLB mn mx bd wn wx wb = false by unfold fitLB; rw [decide_eq_false h]; rfl)
    have h2 : decide (wn ≤ mn) = false := decide_eq_false h
    clear h
    go_enter Tryz.func37, Tryz.ntmps37
    go_wp2
    go_ret
    exact ⟨ret_bool (by rw [HB.out]), (by repeat (first | exact Kept.refl _ _ | assumption | refine Kept.drew ?_ | refine Kept.alloc ?_ _ | refine Kept.setCell ?_ (.inr (by first | exact Nat.le_refl _ | (simp; done) | omega | (simp; omega))) _))⟩
set_option maxHeartbeats 1600000 in
theorem fittab_any (el mn mx wl wn wx : Int) (bd wb : Bool) (w : World) : Calls Tryz.prog 33 #[.agg #[.int .u8 el, .int .u32 mn, .int .u32 mx, .bool bd], .agg #[.int .u8 wl, .int .u32 wn, .int .u32 wx, .bool wb]] w fun e w' => e = .returned (.bool ((el == wl) && fitLB mn mx bd wn wx wb)) ∧ Kept S0 w w' := by
  have hB := (Blk.new w 31 #[.int .u8 el, .int .u32 mn, .int .u32 mx, .bool bd]).alloc (.cells #[.int .u8 wl, .int .u32 wn, .int .u32 wx, .bool wb] 31)
  have hC := Blk.new1 w (.cells #[.int .u8 el, .int .u32 mn, .int .u32 mx, .bool bd] 31) 31 #[.int .u8 wl, .int .u32 wn, .int .u32 wx, .bool wb]
  have a0 := hB.cell 0
  have a1 := hB.cell 1
  have a2 := hB.cell 2
  have a3 := hB.cell 3
  have b0 := hC.cell 0
  have b1 := hC.cell 1
  have b2 := hC.cell 2
  have b3 := hC.cell 3
  clear hB hC
  cases he : (el == wl) with
  | true =>
    have HE := Lib.hid he
    go_enter Tryz.func33, Tryz.ntmps33
    go_wp2_with fail
    refine (fit_any mn mx wn wx bd wb _).mono ?_
    rintro e w1 ⟨rfl, hk⟩
    have HK := Lib.hid hk
    clear hk he
    go_wp2_with fail
    go_ret
    exact ⟨ret_bool (by simp), ((by repeat (first | exact Kept.refl _ _ | assumption | refine Kept.drew ?_ | refine Kept.alloc ?_ _ | refine Kept.setCell ?_ (.inr (by first | exact Nat.le_refl _ | (simp; done) | omega | (simp; omega))) _)) : Kept S0 w _).then0 HK.out⟩
  | false =>
    go_enter Tryz.func33, Tryz.ntmps33
    go_wp2_with fail
    go_ret
    exact ⟨ret_bool (by simp), (by repeat (first | exact Kept.refl _ _ | assumption | refine Kept.drew ?_ | refine Kept.alloc ?_ _ | refine Kept.setCell ?_ (.inr (by first | exact Nat.le_refl _ | (simp; done) | omega | (simp; omega))) _))⟩
set_option maxHeartbeats 1600000 in
theorem rfittab_any (el mn mx wl wn wx : Int) (bd wb : Bool) (w : World) : Calls Tryz.prog 35 #[.agg #[.int .u8 el, .int .u32 mn, .int .u32 mx, .bool bd], .agg #[.int .u8 wl, .int .u32 wn, .int .u32 wx, .bool wb]] w fun e w' => e = .returned (.bool ((el == wl) && fitLB mn mx bd wn wx wb)) ∧ Kept S0 w w' := by
  have hB := (Blk.new w 31 #[.int .u8 el, .int .u32 mn, .int .u32 mx, .bool bd]).alloc (.cells #[.int .u8 wl, .int .u32 wn, .int .u32 wx, .bool wb] 31)
  have hC := Blk.new1 w (.cells #[.int .u8 el, .int .u32 mn, .int .u32 mx, .bool bd] 31) 31 #[.int .u8 wl, .int .u32 wn, .int .u32 wx, .bool wb]
  have a0 := hB.cell 0
  have a1 := hB.cell 1
  have a2 := hB.cell 2
  have a3 := hB.cell 3
  have b0 := hC.cell 0
  have b1 := hC.cell 1
  have b2 := hC.cell 2
  have b3 := hC.cell 3
  clear hB hC
  cases he : (el == wl) with
  | true =>
    have HE := Lib.hid he
    go_enter Tryz.func35, Tryz.ntmps35
    go_wp2_with fail
    refine (rfit_any mn mx wn wx bd wb _).mono ?_
    rintro e w1 ⟨rfl, hk⟩
    have HK := Lib.hid hk
    clear hk he
    go_wp2_with fail
    go_ret
    exact ⟨ret_bool (by simp), ((by repeat (first | exact Kept.refl _ _ | assumption | refine Kept.drew ?_ | refine Kept.alloc ?_ _ | refine Kept.setCell ?_ (.inr (by first | exact Nat.le_refl _ | (simp; done) | omega | (simp; omega))) _)) : Kept S0 w _).then0 HK.out⟩
  | false =>
    go_enter Tryz.func35, Tryz.ntmps35
    go_wp2_with fail
    go_ret
    exact ⟨ret_bool (by simp), (by repeat (first | exact Kept.refl _ _ | assumption | refine Kept.drew ?_ | refine Kept.alloc ?_ _ | refine Kept.setCell ?_ (.inr (by first | exact Nat.le_refl _ | (simp; done) | omega | (simp; omega))) _))⟩
end Go.Proofs.YtlnkdnmeikpckaaGreat
namespace Go.Proofs.YtlnkdnmeikpckaaGreat.T20
open Go.RowKit
set_option maxRecDepth 100000
section
variable {w w' : World} {tb base n : Nat} {el mn mx : Int} {bd : Bool} {lv : Value} {f : Nat → V3}
theorem TabAt.c2 (h : TabAt w tb base n el mn mx bd lv f) : w.cell? ⟨tb, 2, none⟩ = some (.int .u32 mn) := h.obj.cell 2
end
set_option maxHeartbeats 400000 in
theorem off_nil (w : World) :
    Calls Tryz.prog 44 #[.pointer none] w fun e w' => e = .returned (.bool true) ∧ w = w' := by
  go_enter Tryz.func44, Tryz.ntmps44
  go_wp2
  go_ret
  exact ⟨rfl, rfl⟩
end Go.Proofs.YtlnkdnmeikpckaaGreat.T20
namespace Go.Proofs.YtlnkdnmeikpckaaGreat.T20
open Go.RowKit
set_option maxRecDepth 100000
section
variable {w w' : World} {tb base n : Nat} {el mn mx : Int} {bd : Bool} {lv : Value} {f : Nat → V3}
theorem RefAt.c1 (h : RefAt w tb base n el mn mx bd lv f) : w.cell? ⟨tb, 1, none⟩ = some (.int .u32 mn) := h.obj.cell 1
end
end Go.Proofs.YtlnkdnmeikpckaaGreat.T20
namespace Go.Proofs.YtlnkdnmeikpckaaGreat.M19
open Go.RowKit
set_option maxRecDepth 100000
section
variable {w : World} {pb bb n : Nat} {mn mx : Int} {bd : Bool} {f : Nat → UInt8}
theorem MemAt.c1 (h : MemAt w pb bb n mn mx bd f) : w.cell? ⟨pb, 1, none⟩ = some (.int .u32 mn) := h.obj.cell 1
end
set_option maxHeartbeats 400000 in
theorem off_nil (w : World) :
    Calls Tryz.prog 47 #[.pointer none] w fun e w' => e = .returned (.bool true) ∧ w = w' := by
  go_enter Tryz.func47, Tryz.ntmps47
  go_wp2
  go_ret
  exact ⟨rfl, rfl⟩
end Go.Proofs.YtlnkdnmeikpckaaGreat.M19
namespace Go.Proofs.YtlnkdnmeikpckaaGreat.M19
open Go.RowKit
set_option maxRecDepth 100000
theorem MemAt.kept0 {w w' : World} {pb bb n : Nat} {mn mx : Int} {bd : Bool} {f : Nat → UInt8} (h : MemAt w pb bb n mn mx bd f) (hk : Kept S0 w w') : MemAt w' pb bb n mn mx bd f := h.kept hk (fun x => x) (fun x => x)
end Go.Proofs.YtlnkdnmeikpckaaGreat.M19
namespace Go.Proofs.YtlnkdnmeikpckaaGreat.M19
open Go.RowKit
set_option maxRecDepth 100000
section
variable {w w' : World} {rb base n : Nat} {mn mx : Int} {bd : Bool} {lv : Value} {f : Nat → UInt8}
theorem RMemAt.c0 (h : RMemAt w rb base n mn mx bd lv f) : w.cell? ⟨rb, 0, none⟩ = some (.int .u32 mn) := h.obj.cell 0
end
end Go.Proofs.YtlnkdnmeikpckaaGreat.M19
namespace Go.Proofs.YtlnkdnmeikpckaaGreat.M19
open Go.RowKit
set_option maxRecDepth 100000
section
variable {w : World} {pb bb n : Nat} {mn mx : Int} {bd : Bool} {f : Nat → UInt8}
set_option maxHeartbeats 1600000 in
theorem type_made (hm : MemAt w pb bb n mn mx bd f) (hN : n ≤ 1048576) :
    Calls Tryz.prog 19 #[.pointer (some ⟨pb, 0, none⟩)] w fun e w' => e = .returned (.agg #[.int .u32 ((n / 65536 : Nat) : Int), .int .u32 mx, .bool bd]) ∧ Kept S0 w w' := by
  have hka : Kept S0 w (w.alloc (.cells #[.int .u32 0, .int .u32 0, .bool false] 29)) := (Kept.refl S0 w).alloc _
  have hm1 := hm.kept0 hka
  have c0 := hm1.c0
  have c1 := hm1.c1
  have c2 := hm1.c2
  have c3 := hm1.c3
  have hkb : Kept S0 w ((w.alloc (.cells #[.int .u32 0, .int .u32 0, .bool false] 29)).alloc (.cells #[.int .u32 mn, .int .u32 mx, .bool bd] 29)) := hka.alloc _
  have HM2 := Lib.hid (hm.kept0 hkb)
  clear hm hm1
  go_enter Tryz.func19, Tryz.ntmps19
  go_wp2_with fail
  refine (off_made _ _ c0).mono ?_
  rintro e w1 ⟨rfl, rfl⟩
  go_wp2_with fail
  have d4 := HM2.out.c4
  have d0 := HM2.out.c0
  refine (pages_made pb bb n _ d0 d4 hN).mono ?_
  rintro e w1 ⟨rfl, rfl⟩
  go_wp2_with fail
  exact bodyPost_ret (v := .agg #[.int .u32 ((n / 65536 : Nat) : Int), .int .u32 mx, .bool bd]) (by simp [results, Tryz.results19, go_sem]) rfl ⟨rfl, ((Kept.refl S0 w).alloc _).alloc _⟩
end
end Go.Proofs.YtlnkdnmeikpckaaGreat.M19
namespace Go.Proofs.YtlnkdnmeikpckaaGreat
open Go.RowKit
set_option maxRecDepth 100000
section
variable {w : World} {sb B n : Nat} {fl tl ml gl el dl il : Value} {F : Nat → Value}
set_option maxRecDepth 100000 in
set_option maxHeartbeats 3200000 in
theorem getglob_in (a : Nat) (gt : Int) (gm : Bool) (t lo hi : Int) (hb : Blk w sb 132 (stCells fl tl ml gl el dl il)) (hown : Own w B 149 5 AnyV gl n F) (hn : n ≤ 65536) (ha : a < n) (f0 : F (a * 5) = .int .u8 gt) (f1 : F (a * 5 + 1) = .bool gm) (f2 : F (a * 5 + 2) = .int .u8 t) (f3 : F (a * 5 + 3) = .int .u64 lo) (f4 : F (a * 5 + 4) = .int .u64 hi) :
    Calls Tryz.prog 20 #[.pointer (some ⟨sb, 0, none⟩), .int .i64 (a : Int)] w fun e w' => e = .returned (.tuple #[.agg #[.int .u8 gt, .bool gm], .agg #[.int .u8 t, .int .u64 lo, .int .u64 hi], .int .i64 0]) ∧ Kept S0 w w' := by
  obtain ⟨g, fc, hfl, _, _⟩ := hown.is_some (by omega)
  subst hfl
  have hka : Kept S0 w ((w.alloc (.cells #[.int .u8 0, .bool false] 33)).alloc (.cells #[.int .u8 0, .int .u64 0, .int .u64 0] 65)) := ((Kept.refl S0 w).alloc _).alloc _
  have hb1 := hka.blk hb (fun x => x)
  have ho1 := hown.kept hka (fun _ _ x => x)
  have c0 : ((w.alloc (.cells #[.int .u8 0, .bool false] 33)).alloc (.cells #[.int .u8 0, .int .u64 0, .int .u64 0] 65)).cell? ⟨sb, 0, none⟩ = some (.bool true) := hb1.cell 0
  have c1 : ((w.alloc (.cells #[.int .u8 0, .bool false] 33)).alloc (.cells #[.int .u8 0, .int .u64 0, .int .u64 0] 65)).cell? ⟨sb, 4, none⟩ = some (.slice (some ⟨g, 0, none⟩) n fc) := hb1.cell 4
  have g0 := (ho1.rowcell (j := a * 5) (by omega)).trans (congrArg some f0)
  have g1 := (ho1.rowcell (j := a * 5 + 1) (by omega)).trans (congrArg some f1)
  have g2 := (ho1.rowcell (j := a * 5 + 2) (by omega)).trans (congrArg some f2)
  have g3 := (ho1.rowcell (j := a * 5 + 3) (by omega)).trans (congrArg some f3)
  have g4 := (ho1.rowcell (j := a * 5 + 4) (by omega)).trans (congrArg some f4)
  have HB0 := Lib.hid ((Blk.new w 33 #[.int .u8 0, .bool false]).alloc (.cells #[.int .u8 0, .int .u64 0, .int .u64 0] 65))
  have HB1 := Lib.hid (Blk.new1 w (.cells #[.int .u8 0, .bool false] 33) 65 #[.int .u8 0, .int .u64 0, .int .u64 0])
  have HG := Lib.hid (show g < w.heap.size from (hown.lt g rfl).2)
  have HK := Lib.hid hka
  clear hb hown hb1 ho1 hka f0 f1 f2 f3 f4
  go_enter Tryz.func20, Tryz.ntmps20
  go_wp2_with fail
  refine (off_made _ _ c0).mono ?_
  rintro e w1 ⟨rfl, rfl⟩
  go_wp2_with fail
  refine (at_GLOB_in a g c1 hn ha).mono ?_
  rintro e w1 ⟨rfl, rfl⟩
  clear c0 c1
  go_wp2_with fail
  generalize (w.alloc (.cells #[.int .u8 0, .bool false] 33)).alloc (.cells #[.int .u8 0, .int .u64 0, .int .u64 0] 65) = w1 at *
  generalize hbx : w.heap.size = bx at *
  have hS : w1.drew.cell? ⟨g, a * 5, none⟩ = some (.int .u8 gt) ∧ w1.drew.cell? ⟨g, a * 5 + 1, none⟩ = some (.bool gm) ∧ w1.drew.cell? ⟨g, a * 5 + 2, none⟩ = some (.int .u8 t) ∧ w1.drew.cell? ⟨g, a * 5 + 2 + 1, none⟩ = some (.int .u64 lo) ∧ w1.drew.cell? ⟨g, a * 5 + 2 + 2, none⟩ = some (.int .u64 hi) := ⟨g0, g1, g2, g3, g4⟩
  refine wp_region_R (fun w' => w'.cell? ⟨g, a * 5, none⟩ = some (.int .u8 gt) ∧ w'.cell? ⟨g, a * 5 + 1, none⟩ = some (.bool gm) ∧ w'.cell? ⟨g, a * 5 + 2, none⟩ = some (.int .u8 t) ∧ w'.cell? ⟨g, a * 5 + 2 + 1, none⟩ = some (.int .u64 lo) ∧ w'.cell? ⟨g, a * 5 + 2 + 2, none⟩ = some (.int .u64 hi)) [] (by kernel_rfl) ?_
  have hB0 := HB0.out.drew
  have hB1 := HB1.out.drew
  have hgx := HG.out
  have HKD := Lib.hid HK.out.drew
  generalize w1.drew = w2 at *
  clear g0 g1 g2 g3 g4 HB0 HB1 HK
  (first | (refine tkR 0 (v := ?_) rfl hS ⟨by rfl, ?_⟩ ?_; rotate_left; intro w h; (try dsimp only at h); first | (go_simp; done) | (go_simp; with_reducible rfl)) | refine skR 0 rfl (fun _ => hS) (by rfl) ?_); simp only [zq1, zq2, Act.put, zq4, zq5, zq6]
  (first | (refine tkR 1 (v := ?_) rfl hS ⟨by rfl, ?_⟩ ?_; rotate_left; intro w h; (try dsimp only at h); first | (go_simp; done) | (go_simp; with_reducible rfl)) | refine skR 1 rfl (fun _ => hS) (by rfl) ?_); simp only [zq1, zq2, zq3, Act.put, zq4, zq5, zq6]
  (first | (refine tkR 2 (v := ?_) rfl hS ⟨by rfl, ?_⟩ ?_; rotate_left; intro w h; (try dsimp only at h); first | (go_simp; done) | (go_simp; with_reducible rfl)) | refine skR 2 rfl (fun _ => hS) (by rfl) ?_); simp only [zq1, zq2, zq3, Act.put, zq4, zq5, zq6]
  (first | (refine tkR 3 (v := ?_) rfl hS ⟨by rfl, ?_⟩ ?_; rotate_left; intro w h; (try dsimp only at h); first | (go_simp; done) | (go_simp; with_reducible rfl)) | refine skR 3 rfl (fun _ => hS) (by rfl) ?_); simp only [zq1, zq2, zq3, Act.put, zq4, zq5, zq6]
  (first | (refine tkR 4 (v := ?_) rfl hS ⟨by rfl, ?_⟩ ?_; rotate_left; intro w h; (try dsimp only at h); first | (go_simp; done) | (go_simp; with_reducible rfl)) | refine skR 4 rfl (fun _ => hS) (by rfl) ?_); simp only [zq1, zq2, zq3, Act.put, zq4, zq5, zq6]
  (first | (refine tkR 5 (v := ?_) rfl hS ⟨by rfl, ?_⟩ ?_; rotate_left; intro w h; (try dsimp only at h); first | (go_simp; done) | (go_simp; with_reducible rfl)) | refine skR 5 rfl (fun _ => hS) (by rfl) ?_); simp only [zq1, zq2, zq3, Act.put, zq4, zq5, zq6]
  (first | (refine tkR 6 (v := ?_) rfl hS ⟨by rfl, ?_⟩ ?_; rotate_left; intro w h; (try dsimp only at h); first | (go_simp; done) | (go_simp; with_reducible rfl)) | refine skR 6 rfl (fun _ => hS) (by rfl) ?_); simp only [zq1, zq2, zq3, Act.put, zq4, zq5, zq6]
  (first | (refine tkR 7 (v := ?_) rfl hS ⟨by rfl, ?_⟩ ?_; rotate_left; intro w h; (try dsimp only at h); first | (go_simp; done) | (go_simp; with_reducible rfl)) | refine skR 7 rfl (fun _ => hS) (by rfl) ?_); simp only [zq1, zq2, zq3, Act.put, zq4, zq5, zq6]
  have q0 := hB0.cell 0
  have q1 := hB0.cell 1
  have q2 := hB0.frozen 0
  have q3 := hB0.frozen 1
  refine wpAnyR_one 8 rfl (by kernel_rfl) (fun K hK8 => ?_)
  go_simp
  have hs3 : Kept (S1 bx) w2 ((w2.setCell ⟨bx, 0, none⟩ (.int .u8 gt)).setCell ⟨bx, 1, none⟩ (.bool gm)) := ((Kept.refl (S1 bx) w2).setCell (p := ⟨bx, 0, none⟩) (.inl rfl) _).setCell (p := ⟨bx, 1, none⟩) (.inl rfl) _
  have hb3 : Blk ((w2.setCell ⟨bx, 0, none⟩ (.int .u8 gt)).setCell ⟨bx, 1, none⟩ (.bool gm)) bx 33 #[.int .u8 gt, .bool gm] := (hB0.set_ 0 (.int .u8 gt)).set_ 1 (.bool gm)
  have hv3 := hs3.blk hB1 (fun e => by have e' : bx + 1 = bx := e; omega)
  have hcell : ∀ j v, w2.cell? ⟨g, j, none⟩ = some v → ((w2.setCell ⟨bx, 0, none⟩ (.int .u8 gt)).setCell ⟨bx, 1, none⟩ (.bool gm)).cell? ⟨g, j, none⟩ = some v := fun j v h => (hs3.cell (p := ⟨g, j, none⟩) (World.block_lt_of_cell? _ _ h) (fun e => by have e' : g = bx := e; omega)).trans h
  refine hK8.out _ _ (fun _ => ⟨hcell _ _ hS.1, hcell _ _ hS.2.1, hcell _ _ hS.2.2.1, hcell _ _ hS.2.2.2.1, hcell _ _ hS.2.2.2.2⟩) ?_
  clear hK8 K
  have hS3 : ((w2.setCell ⟨bx, 0, none⟩ (.int .u8 gt)).setCell ⟨bx, 1, none⟩ (.bool gm)).cell? ⟨g, a * 5, none⟩ = some (.int .u8 gt) ∧ ((w2.setCell ⟨bx, 0, none⟩ (.int .u8 gt)).setCell ⟨bx, 1, none⟩ (.bool gm)).cell? ⟨g, a * 5 + 1, none⟩ = some (.bool gm) ∧ ((w2.setCell ⟨bx, 0, none⟩ (.int .u8 gt)).setCell ⟨bx, 1, none⟩ (.bool gm)).cell? ⟨g, a * 5 + 2, none⟩ = some (.int .u8 t) ∧ ((w2.setCell ⟨bx, 0, none⟩ (.int .u8 gt)).setCell ⟨bx, 1, none⟩ (.bool gm)).cell? ⟨g, a * 5 + 2 + 1, none⟩ = some (.int .u64 lo) ∧ ((w2.setCell ⟨bx, 0, none⟩ (.int .u8 gt)).setCell ⟨bx, 1, none⟩ (.bool gm)).cell? ⟨g, a * 5 + 2 + 2, none⟩ = some (.int .u64 hi) := ⟨hcell _ _ hS.1, hcell _ _ hS.2.1, hcell _ _ hS.2.2.1, hcell _ _ hS.2.2.2.1, hcell _ _ hS.2.2.2.2⟩
  have HK3 := Lib.hid (HKD.out.trans_ hs3 (fun i e => .inr (by have e' : i = bx := e; omega)))
  clear hcell hs3 hS q0 q1 q2 q3 hB0 hB1 HKD
  generalize (w2.setCell ⟨bx, 0, none⟩ (.int .u8 gt)).setCell ⟨bx, 1, none⟩ (.bool gm) = w3 at *
  have q0 := hv3.cell 0
  have q1 := hv3.cell 1
  have q2 := hv3.cell 2
  have r0 := hv3.frozen 0
  have r1 := hv3.frozen 1
  have r2 := hv3.frozen 2
  refine wpAnyR_one 9 rfl (by kernel_rfl) (fun K hK9 => ?_)
  go_simp
  have hs4 : Kept (S1 (bx + 1)) w3 (((w3.setCell ⟨bx + 1, 0, none⟩ (.int .u8 t)).setCell ⟨bx + 1, 1, none⟩ (.int .u64 lo)).setCell ⟨bx + 1, 2, none⟩ (.int .u64 hi)) := (((Kept.refl (S1 (bx + 1)) w3).setCell (p := ⟨bx + 1, 0, none⟩) (.inl rfl) _).setCell (p := ⟨bx + 1, 1, none⟩) (.inl rfl) _).setCell (p := ⟨bx + 1, 2, none⟩) (.inl rfl) _
  have hv4 : Blk (((w3.setCell ⟨bx + 1, 0, none⟩ (.int .u8 t)).setCell ⟨bx + 1, 1, none⟩ (.int .u64 lo)).setCell ⟨bx + 1, 2, none⟩ (.int .u64 hi)) (bx + 1) 65 #[.int .u8 t, .int .u64 lo, .int .u64 hi] := ((hv3.set_ 0 (.int .u8 t)).set_ 1 (.int .u64 lo)).set_ 2 (.int .u64 hi)
  have hb4 := hs4.blk hb3 (fun e => by have e' : bx = bx + 1 := e; omega)
  have hcell : ∀ j v, w3.cell? ⟨g, j, none⟩ = some v → (((w3.setCell ⟨bx + 1, 0, none⟩ (.int .u8 t)).setCell ⟨bx + 1, 1, none⟩ (.int .u64 lo)).setCell ⟨bx + 1, 2, none⟩ (.int .u64 hi)).cell? ⟨g, j, none⟩ = some v := fun j v h => (hs4.cell (p := ⟨g, j, none⟩) (World.block_lt_of_cell? _ _ h) (fun e => by have e' : g = bx + 1 := e; omega)).trans h
  have HK4 := Lib.hid (HK3.out.trans_ hs4 (fun i e => .inr (by have e' : i = bx + 1 := e; omega)))
  have hS4 : (((w3.setCell ⟨bx + 1, 0, none⟩ (.int .u8 t)).setCell ⟨bx + 1, 1, none⟩ (.int .u64 lo)).setCell ⟨bx + 1, 2, none⟩ (.int .u64 hi)).cell? ⟨g, a * 5, none⟩ = some (.int .u8 gt) ∧ (((w3.setCell ⟨bx + 1, 0, none⟩ (.int .u8 t)).setCell ⟨bx + 1, 1, none⟩ (.int .u64 lo)).setCell ⟨bx + 1, 2, none⟩ (.int .u64 hi)).cell? ⟨g, a * 5 + 1, none⟩ = some (.bool gm) ∧ (((w3.setCell ⟨bx + 1, 0, none⟩ (.int .u8 t)).setCell ⟨bx + 1, 1, none⟩ (.int .u64 lo)).setCell ⟨bx + 1, 2, none⟩ (.int .u64 hi)).cell? ⟨g, a * 5 + 2, none⟩ = some (.int .u8 t) ∧ (((w3.setCell ⟨bx + 1, 0, none⟩ (.int .u8 t)).setCell ⟨bx + 1, 1, none⟩ (.int .u64 lo)).setCell ⟨bx + 1, 2, none⟩ (.int .u64 hi)).cell? ⟨g, a * 5 + 2 + 1, none⟩ = some (.int .u64 lo) ∧ (((w3.setCell ⟨bx + 1, 0, none⟩ (.int .u8 t)).setCell ⟨bx + 1, 1, none⟩ (.int .u64 lo)).setCell ⟨bx + 1, 2, none⟩ (.int .u64 hi)).cell? ⟨g, a * 5 + 2 + 2, none⟩ = some (.int .u64 hi) := ⟨hcell _ _ hS3.1, hcell _ _ hS3.2.1, hcell _ _ hS3.2.2.1, hcell _ _ hS3.2.2.2.1, hcell _ _ hS3.2.2.2.2⟩
  refine hK9.out _ _ (fun _ => ⟨hcell _ _ hS3.1, hcell _ _ hS3.2.1, hcell _ _ hS3.2.2.1, hcell _ _ hS3.2.2.2.1, hcell _ _ hS3.2.2.2.2⟩) ?_
  clear hK9 K hS3 hcell hs4 q0 q1 q2 r0 r1 r2 hv3 hb3 HK3
  generalize ((w3.setCell ⟨bx + 1, 0, none⟩ (.int .u8 t)).setCell ⟨bx + 1, 1, none⟩ (.int .u64 lo)).setCell ⟨bx + 1, 2, none⟩ (.int .u64 hi) = w4 at *
  refine wpAnyR_one 10 rfl (by kernel_rfl) (fun K hK10 => ?_)
  go_simp
  refine hK10.out _ _ (fun _ => hS4) ?_
  clear hK10 K hS4
  refine wpAnyR_done (by kernel_rfl) ?_ _
  have u0 := hb4.cell 0
  have u1 := hb4.cell 1
  have u2 := hv4.cell 0
  have u3 := hv4.cell 1
  have u4 := hv4.cell 2
  go_wp2_with fail
  exact bodyPost_ret (v := .tuple #[.agg #[.int .u8 gt, .bool gm], .agg #[.int .u8 t, .int .u64 lo, .int .u64 hi], .int .i64 0]) (by simp [results, Tryz.results20, go_sem, u0, u1, u2, u3, u4]) rfl ⟨rfl, HK4.out⟩
end
end Go.Proofs.YtlnkdnmeikpckaaGreat
namespace Go.Proofs.YtlnkdnmeikpckaaGreat
open Go.RowKit
set_option maxRecDepth 100000
section
variable {w : World} {sb B n : Nat} {fl tl ml gl el dl il : Value} {F : Nat → Value}
set_option maxRecDepth 100000 in
set_option maxHeartbeats 1600000 in
theorem getglob_out (a : Int) (hb : Blk w sb 132 (stCells fl tl ml gl el dl il)) (hown : Own w B 149 5 AnyV gl n F) (hn : n ≤ 65536) (ha : a < 0 ∨ (n : Int) ≤ a) :
    Calls Tryz.prog 20 #[.pointer (some ⟨sb, 0, none⟩), .int .i64 a] w fun e w' => e = .returned (.tuple #[.agg #[.int .u8 0, .bool false], .agg #[.int .u8 0, .int .u64 0, .int .u64 0], .int .i64 11]) ∧ Kept S0 w w' := by
  obtain ⟨lA, lc, hlv, _, _, _⟩ := hown.out
  subst hlv
  have hka : Kept S0 w ((w.alloc (.cells #[.int .u8 0, .bool false] 33)).alloc (.cells #[.int .u8 0, .int .u64 0, .int .u64 0] 65)) := ((Kept.refl S0 w).alloc _).alloc _
  have hb1 := hka.blk hb (fun x => x)
  have c0 : ((w.alloc (.cells #[.int .u8 0, .bool false] 33)).alloc (.cells #[.int .u8 0, .int .u64 0, .int .u64 0] 65)).cell? ⟨sb, 0, none⟩ = some (.bool true) := hb1.cell 0
  have c1 : ((w.alloc (.cells #[.int .u8 0, .bool false] 33)).alloc (.cells #[.int .u8 0, .int .u64 0, .int .u64 0] 65)).cell? ⟨sb, 4, none⟩ = some (.slice lA n lc) := hb1.cell 4
  have hB0 := (Blk.new w 33 #[.int .u8 0, .bool false]).alloc (.cells #[.int .u8 0, .int .u64 0, .int .u64 0] 65)
  have hB1 := Blk.new1 w (.cells #[.int .u8 0, .bool false] 33) 65 #[.int .u8 0, .int .u64 0, .int .u64 0]
  generalize hbx : w.heap.size = bx at *
  generalize hwa : ((w.alloc (.cells #[.int .u8 0, .bool false] 33)).alloc (.cells #[.int .u8 0, .int .u64 0, .int .u64 0] 65)) = wa at *
  have hk4 := (((((Kept.refl S0 w).of0 (S2 bx (bx + 1))).trans_ (hka.of0 (S2 bx (bx + 1))) (fun _ h => .inl h)))).trans_ ((((((Kept.refl (S2 bx (bx + 1)) wa).setCell (p := ⟨bx, 0, none⟩) (.inl (.inl rfl)) (.int .u8 0)).setCell (p := ⟨bx, 1, none⟩) (.inl (.inl rfl)) (.bool false)).setCell (p := ⟨bx + 1, 0, none⟩) (.inl (.inr rfl)) (.int .u8 0)).setCell (p := ⟨bx + 1, 1, none⟩) (.inl (.inr rfl)) (.int .u64 0)).setCell (p := ⟨bx + 1, 2, none⟩) (.inl (.inr rfl)) (.int .u64 0)) (fun _ h => .inl h)
  have HK := Lib.hid (hka.trans_ ((((((Kept.refl (S2 bx (bx + 1)) wa).setCell (p := ⟨bx, 0, none⟩) (.inl (.inl rfl)) (.int .u8 0)).setCell (p := ⟨bx, 1, none⟩) (.inl (.inl rfl)) (.bool false)).setCell (p := ⟨bx + 1, 0, none⟩) (.inl (.inr rfl)) (.int .u8 0)).setCell (p := ⟨bx + 1, 1, none⟩) (.inl (.inr rfl)) (.int .u64 0)).setCell (p := ⟨bx + 1, 2, none⟩) (.inl (.inr rfl)) (.int .u64 0)) (fun i h => .inr (by rcases h with h | h <;> omega)))
  have hb4 : Blk (((((wa.setCell ⟨bx, 0, none⟩ (.int .u8 0)).setCell ⟨bx, 1, none⟩ (.bool false)).setCell ⟨bx + 1, 0, none⟩ (.int .u8 0)).setCell ⟨bx + 1, 1, none⟩ (.int .u64 0)).setCell ⟨bx + 1, 2, none⟩ (.int .u64 0)) bx 33 #[.int .u8 0, .bool false] :=
    ((((hB0.set_ 0 (.int .u8 0)).set_ 1 (.bool false)).far (p := ⟨bx + 1, 0, none⟩) (by simp) _).far (p := ⟨bx + 1, 1, none⟩) (by simp) _).far (p := ⟨bx + 1, 2, none⟩) (by simp) _
  have hv4 : Blk (((((wa.setCell ⟨bx, 0, none⟩ (.int .u8 0)).setCell ⟨bx, 1, none⟩ (.bool false)).setCell ⟨bx + 1, 0, none⟩ (.int .u8 0)).setCell ⟨bx + 1, 1, none⟩ (.int .u64 0)).setCell ⟨bx + 1, 2, none⟩ (.int .u64 0)) (bx + 1) 65 #[.int .u8 0, .int .u64 0, .int .u64 0] :=
    ((((hB1.far (p := ⟨bx, 0, none⟩) (by simp) _).far (p := ⟨bx, 1, none⟩) (by simp) _).set_ 0 (.int .u8 0)).set_ 1 (.int .u64 0)).set_ 2 (.int .u64 0)
  have u0 := hb4.cell 0
  have u1 := hb4.cell 1
  have u2 := hv4.cell 0
  have u3 := hv4.cell 1
  have u4 := hv4.cell 2
  have q0 := hB0.cell 0
  have q1 := hB0.cell 1
  have q2 := hB0.frozen 0
  have q3 := hB0.frozen 1
  have r0 := hB1.cell 0
  have r1 := hB1.cell 1
  have r2 := hB1.cell 2
  have r3 := hB1.frozen 0
  have r4 := hB1.frozen 1
  have r5 := hB1.frozen 2
  clear hb hown hb1 hka hk4 hb4 hv4 hB0 hB1
  go_enter Tryz.func20, Tryz.ntmps20
  go_wp2_with fail
  refine (off_made _ _ c0).mono ?_
  rintro e w1 ⟨rfl, rfl⟩
  go_wp2_with fail
  refine (at_GLOB_out a lA c1 hn ha).mono ?_
  rintro e w1 ⟨rfl, rfl⟩
  clear c0 c1 ha
  go_wp2_with fail
  exact bodyPost_ret (v := .tuple #[.agg #[.int .u8 0, .bool false], .agg #[.int .u8 0, .int .u64 0, .int .u64 0], .int .i64 11]) (by simp [results, Tryz.results20, go_sem, u0, u1, u2, u3, u4]) rfl ⟨rfl, HK.out⟩
end
end Go.Proofs.YtlnkdnmeikpckaaGreat
namespace Go.Proofs.YtlnkdnmeikpckaaGreat
open Go.RowKit
set_option maxRecDepth 100000
set_option maxRecDepth 100000 in
set_option maxHeartbeats 3200000 in
theorem rsizes_any {w : World} {rb : Nat} {A0 A1 A2 A3 A4 A5 A6 : Option Addr} {n0 n1 n2 n3 n4 n5 n6 c0 c1 c2 c3 c4 c5 c6 : Nat} (hb : Blk w rb 89 (rCells (.slice A0 n0 c0) (.slice A1 n1 c1) (.slice A2 n2 c2) (.slice A3 n3 c3) (.slice A4 n4 c4) (.slice A5 n5 c5) (.slice A6 n6 c6))) :
    Calls Tryz.prog 9 #[.pointer (some ⟨rb, 0, none⟩)] w fun e w' => e = .returned (.agg #[.int .i64 (n0 : Int), .int .i64 (n1 : Int), .int .i64 (n2 : Int), .int .i64 (n3 : Int), .int .i64 (n4 : Int), .int .i64 (n5 : Int), .int .i64 (n6 : Int)]) ∧ Kept S0 w w' := by
  have hka : Kept S0 w (w.alloc (.cells #[.int .i64 0, .int .i64 0, .int .i64 0, .int .i64 0, .int .i64 0, .int .i64 0, .int .i64 0] 43)) := (Kept.refl S0 w).alloc _
  have hr := Blk.new w 43 #[.int .i64 0, .int .i64 0, .int .i64 0, .int .i64 0, .int .i64 0, .int .i64 0, .int .i64 0]
  have HB1 := Lib.hid (hka.blk hb (fun x => x))
  have HR := Lib.hid hr
  have HK := Lib.hid hka
  clear hb hka hr
  go_enter Tryz.func9, Tryz.ntmps9
  go_wp2_with fail
  generalize hxb : w.heap.size = xb at *
  refine wp_region_R (fun w' => w'.cell? ⟨rb, 0, none⟩ = some (.slice A0 n0 c0) ∧ w'.cell? ⟨rb, 1, none⟩ = some (.slice A1 n1 c1) ∧ w'.cell? ⟨rb, 2, none⟩ = some (.slice A2 n2 c2) ∧ w'.cell? ⟨rb, 3, none⟩ = some (.slice A3 n3 c3) ∧ w'.cell? ⟨rb, 4, none⟩ = some (.slice A4 n4 c4) ∧ w'.cell? ⟨rb, 5, none⟩ = some (.slice A5 n5 c5) ∧ w'.cell? ⟨rb, 6, none⟩ = some (.slice A6 n6 c6)) [36] (by kernel_rfl) ?_
  have hd := HK.out.drew
  have hb2 := HB1.out.drew
  have hr2 := HR.out.drew
  generalize (w.alloc (.cells #[.int .i64 0, .int .i64 0, .int .i64 0, .int .i64 0, .int .i64 0, .int .i64 0, .int .i64 0] 43)).drew = w1 at *
  have hS : w1.cell? ⟨rb, 0, none⟩ = some (.slice A0 n0 c0) ∧ w1.cell? ⟨rb, 1, none⟩ = some (.slice A1 n1 c1) ∧ w1.cell? ⟨rb, 2, none⟩ = some (.slice A2 n2 c2) ∧ w1.cell? ⟨rb, 3, none⟩ = some (.slice A3 n3 c3) ∧ w1.cell? ⟨rb, 4, none⟩ = some (.slice A4 n4 c4) ∧ w1.cell? ⟨rb, 5, none⟩ = some (.slice A5 n5 c5) ∧ w1.cell? ⟨rb, 6, none⟩ = some (.slice A6 n6 c6) := ⟨hb2.cell 0, hb2.cell 1, hb2.cell 2, hb2.cell 3, hb2.cell 4, hb2.cell 5, hb2.cell 6⟩
  have r0 := hr2.cell 0
  have q0 := hr2.frozen 0
  have r1 := hr2.cell 1
  have q1 := hr2.frozen 1
  have r2 := hr2.cell 2
  have q2 := hr2.frozen 2
  have r3 := hr2.cell 3
  have q3 := hr2.frozen 3
  have r4 := hr2.cell 4
  have q4 := hr2.frozen 4
  have r5 := hr2.cell 5
  have q5 := hr2.frozen 5
  have r6 := hr2.cell 6
  have q6 := hr2.frozen 6
  have HR4 := Lib.hid (show Blk (((((((w1.setCell ⟨xb, 0, none⟩ (.int .i64 (n0 : Int))).setCell ⟨xb, 1, none⟩ (.int .i64 (n1 : Int))).setCell ⟨xb, 2, none⟩ (.int .i64 (n2 : Int))).setCell ⟨xb, 3, none⟩ (.int .i64 (n3 : Int))).setCell ⟨xb, 4, none⟩ (.int .i64 (n4 : Int))).setCell ⟨xb, 5, none⟩ (.int .i64 (n5 : Int))).setCell ⟨xb, 6, none⟩ (.int .i64 (n6 : Int))) xb 43 #[.int .i64 (n0 : Int), .int .i64 (n1 : Int), .int .i64 (n2 : Int), .int .i64 (n3 : Int), .int .i64 (n4 : Int), .int .i64 (n5 : Int), .int .i64 (n6 : Int)] from (((((((hr2.set_ 0 (.int .i64 (n0 : Int))).set_ 1 (.int .i64 (n1 : Int))).set_ 2 (.int .i64 (n2 : Int))).set_ 3 (.int .i64 (n3 : Int))).set_ 4 (.int .i64 (n4 : Int))).set_ 5 (.int .i64 (n5 : Int))).set_ 6 (.int .i64 (n6 : Int))))
  have HK4 := Lib.hid (hd.trans_ ((((((((Kept.refl (S1 xb) w1).setCell (p := ⟨xb, 0, none⟩) (.inl rfl) (.int .i64 (n0 : Int))).setCell (p := ⟨xb, 1, none⟩) (.inl rfl) (.int .i64 (n1 : Int))).setCell (p := ⟨xb, 2, none⟩) (.inl rfl) (.int .i64 (n2 : Int))).setCell (p := ⟨xb, 3, none⟩) (.inl rfl) (.int .i64 (n3 : Int))).setCell (p := ⟨xb, 4, none⟩) (.inl rfl) (.int .i64 (n4 : Int))).setCell (p := ⟨xb, 5, none⟩) (.inl rfl) (.int .i64 (n5 : Int))).setCell (p := ⟨xb, 6, none⟩) (.inl rfl) (.int .i64 (n6 : Int))) (fun i e => .inr (by have e' : i = xb := e; omega)))
  clear hd hb2 hr2 HB1 HR HK
  (first | (refine tkR 0 (v := ?_) rfl hS ⟨by rfl, ?_⟩ ?_; rotate_left; intro w h; (try dsimp only at h); first | (go_simp; done) | (go_simp; with_reducible rfl)) | refine skR 0 rfl (fun _ => hS) (by rfl) ?_); simp only [zq1, zq2, Act.put, zq4, zq5, zq6]
  (first | (refine tkR 1 (v := ?_) rfl hS ⟨by rfl, ?_⟩ ?_; rotate_left; intro w h; (try dsimp only at h); first | (go_simp; done) | (go_simp; with_reducible rfl)) | refine skR 1 rfl (fun _ => hS) (by rfl) ?_); simp only [zq1, zq2, zq3, Act.put, zq4, zq5, zq6]
  (first | (refine tkR 2 (v := ?_) rfl hS ⟨by rfl, ?_⟩ ?_; rotate_left; intro w h; (try dsimp only at h); first | (go_simp; done) | (go_simp; with_reducible rfl)) | refine skR 2 rfl (fun _ => hS) (by rfl) ?_); simp only [zq1, zq2, zq3, Act.put, zq4, zq5, zq6]
  (first | (refine tkR 3 (v := ?_) rfl hS ⟨by rfl, ?_⟩ ?_; rotate_left; intro w h; (try dsimp only at h); first | (go_simp; done) | (go_simp; with_reducible rfl)) | refine skR 3 rfl (fun _ => hS) (by rfl) ?_); simp only [zq1, zq2, zq3, Act.put, zq4, zq5, zq6]
  (first | (refine tkR 4 (v := ?_) rfl hS ⟨by rfl, ?_⟩ ?_; rotate_left; intro w h; (try dsimp only at h); first | (go_simp; done) | (go_simp; with_reducible rfl)) | refine skR 4 rfl (fun _ => hS) (by rfl) ?_); simp only [zq1, zq2, zq3, Act.put, zq4, zq5, zq6]
  (first | (refine tkR 5 (v := ?_) rfl hS ⟨by rfl, ?_⟩ ?_; rotate_left; intro w h; (try dsimp only at h); first | (go_simp; done) | (go_simp; with_reducible rfl)) | refine skR 5 rfl (fun _ => hS) (by rfl) ?_); simp only [zq1, zq2, zq3, Act.put, zq4, zq5, zq6]
  (first | (refine tkR 6 (v := ?_) rfl hS ⟨by rfl, ?_⟩ ?_; rotate_left; intro w h; (try dsimp only at h); first | (go_simp; done) | (go_simp; with_reducible rfl)) | refine skR 6 rfl (fun _ => hS) (by rfl) ?_); simp only [zq1, zq2, zq3, Act.put, zq4, zq5, zq6]
  (first | (refine tkR 7 (v := ?_) rfl hS ⟨by rfl, ?_⟩ ?_; rotate_left; intro w h; (try dsimp only at h); first | (go_simp; done) | (go_simp; with_reducible rfl)) | refine skR 7 rfl (fun _ => hS) (by rfl) ?_); simp only [zq1, zq2, zq3, Act.put, zq4, zq5, zq6]
  (first | (refine tkR 8 (v := ?_) rfl hS ⟨by rfl, ?_⟩ ?_; rotate_left; intro w h; (try dsimp only at h); first | (go_simp; done) | (go_simp; with_reducible rfl)) | refine skR 8 rfl (fun _ => hS) (by rfl) ?_); simp only [zq1, zq2, zq3, Act.put, zq4, zq5, zq6]
  (first | (refine tkR 9 (v := ?_) rfl hS ⟨by rfl, ?_⟩ ?_; rotate_left; intro w h; (try dsimp only at h); first | (go_simp; done) | (go_simp; with_reducible rfl)) | refine skR 9 rfl (fun _ => hS) (by rfl) ?_); simp only [zq1, zq2, zq3, Act.put, zq4, zq5, zq6]
  (first | (refine tkR 10 (v := ?_) rfl hS ⟨by rfl, ?_⟩ ?_; rotate_left; intro w h; (try dsimp only at h); first | (go_simp; done) | (go_simp; with_reducible rfl)) | refine skR 10 rfl (fun _ => hS) (by rfl) ?_); simp only [zq1, zq2, zq3, Act.put, zq4, zq5, zq6]
  (first | (refine tkR 11 (v := ?_) rfl hS ⟨by rfl, ?_⟩ ?_; rotate_left; intro w h; (try dsimp only at h); first | (go_simp; done) | (go_simp; with_reducible rfl)) | refine skR 11 rfl (fun _ => hS) (by rfl) ?_); simp only [zq1, zq2, zq3, Act.put, zq4, zq5, zq6]
  (first | (refine tkR 12 (v := ?_) rfl hS ⟨by rfl, ?_⟩ ?_; rotate_left; intro w h; (try dsimp only at h); first | (go_simp; done) | (go_simp; with_reducible rfl)) | refine skR 12 rfl (fun _ => hS) (by rfl) ?_); simp only [zq1, zq2, zq3, Act.put, zq4, zq5, zq6]
  (first | (refine tkR 13 (v := ?_) rfl hS ⟨by rfl, ?_⟩ ?_; rotate_left; intro w h; (try dsimp only at h); first | (go_simp; done) | (go_simp; with_reducible rfl)) | refine skR 13 rfl (fun _ => hS) (by rfl) ?_); simp only [zq1, zq2, zq3, Act.put, zq4, zq5, zq6]
  (first | (refine tkR 14 (v := ?_) rfl hS ⟨by rfl, ?_⟩ ?_; rotate_left; intro w h; (try dsimp only at h); first | (go_simp; done) | (go_simp; with_reducible rfl)) | refine skR 14 rfl (fun _ => hS) (by rfl) ?_); simp only [zq1, zq2, zq3, Act.put, zq4, zq5, zq6]
  (first | (refine tkR 15 (v := ?_) rfl hS ⟨by rfl, ?_⟩ ?_; rotate_left; intro w h; (try dsimp only at h); first | (go_simp; done) | (go_simp; with_reducible rfl)) | refine skR 15 rfl (fun _ => hS) (by rfl) ?_); simp only [zq1, zq2, zq3, Act.put, zq4, zq5, zq6]
  (first | (refine tkR 16 (v := ?_) rfl hS ⟨by rfl, ?_⟩ ?_; rotate_left; intro w h; (try dsimp only at h); first | (go_simp; done) | (go_simp; with_reducible rfl)) | refine skR 16 rfl (fun _ => hS) (by rfl) ?_); simp only [zq1, zq2, zq3, Act.put, zq4, zq5, zq6]
  (first | (refine tkR 17 (v := ?_) rfl hS ⟨by rfl, ?_⟩ ?_; rotate_left; intro w h; (try dsimp only at h); first | (go_simp; done) | (go_simp; with_reducible rfl)) | refine skR 17 rfl (fun _ => hS) (by rfl) ?_); simp only [zq1, zq2, zq3, Act.put, zq4, zq5, zq6]
  (first | (refine tkR 18 (v := ?_) rfl hS ⟨by rfl, ?_⟩ ?_; rotate_left; intro w h; (try dsimp only at h); first | (go_simp; done) | (go_simp; with_reducible rfl)) | refine skR 18 rfl (fun _ => hS) (by rfl) ?_); simp only [zq1, zq2, zq3, Act.put, zq4, zq5, zq6]
  (first | (refine tkR 19 (v := ?_) rfl hS ⟨by rfl, ?_⟩ ?_; rotate_left; intro w h; (try dsimp only at h); first | (go_simp; done) | (go_simp; with_reducible rfl)) | refine skR 19 rfl (fun _ => hS) (by rfl) ?_); simp only [zq1, zq2, zq3, Act.put, zq4, zq5, zq6]
  (first | (refine tkR 20 (v := ?_) rfl hS ⟨by rfl, ?_⟩ ?_; rotate_left; intro w h; (try dsimp only at h); first | (go_simp; done) | (go_simp; with_reducible rfl)) | refine skR 20 rfl (fun _ => hS) (by rfl) ?_); simp only [zq1, zq2, zq3, Act.put, zq4, zq5, zq6]
  (first | (refine tkR 21 (v := ?_) rfl hS ⟨by rfl, ?_⟩ ?_; rotate_left; intro w h; (try dsimp only at h); first | (go_simp; done) | (go_simp; with_reducible rfl)) | refine skR 21 rfl (fun _ => hS) (by rfl) ?_); simp only [zq1, zq2, zq3, Act.put, zq4, zq5, zq6]
  (first | (refine tkR 22 (v := ?_) rfl hS ⟨by rfl, ?_⟩ ?_; rotate_left; intro w h; (try dsimp only at h); first | (go_simp; done) | (go_simp; with_reducible rfl)) | refine skR 22 rfl (fun _ => hS) (by rfl) ?_); simp only [zq1, zq2, zq3, Act.put, zq4, zq5, zq6]
  (first | (refine tkR 23 (v := ?_) rfl hS ⟨by rfl, ?_⟩ ?_; rotate_left; intro w h; (try dsimp only at h); first | (go_simp; done) | (go_simp; with_reducible rfl)) | refine skR 23 rfl (fun _ => hS) (by rfl) ?_); simp only [zq1, zq2, zq3, Act.put, zq4, zq5, zq6]
  (first | (refine tkR 24 (v := ?_) rfl hS ⟨by rfl, ?_⟩ ?_; rotate_left; intro w h; (try dsimp only at h); first | (go_simp; done) | (go_simp; with_reducible rfl)) | refine skR 24 rfl (fun _ => hS) (by rfl) ?_); simp only [zq1, zq2, zq3, Act.put, zq4, zq5, zq6]
  (first | (refine tkR 25 (v := ?_) rfl hS ⟨by rfl, ?_⟩ ?_; rotate_left; intro w h; (try dsimp only at h); first | (go_simp; done) | (go_simp; with_reducible rfl)) | refine skR 25 rfl (fun _ => hS) (by rfl) ?_); simp only [zq1, zq2, zq3, Act.put, zq4, zq5, zq6]
  (first | (refine tkR 26 (v := ?_) rfl hS ⟨by rfl, ?_⟩ ?_; rotate_left; intro w h; (try dsimp only at h); first | (go_simp; done) | (go_simp; with_reducible rfl)) | refine skR 26 rfl (fun _ => hS) (by rfl) ?_); simp only [zq1, zq2, zq3, Act.put, zq4, zq5, zq6]
  (first | (refine tkR 27 (v := ?_) rfl hS ⟨by rfl, ?_⟩ ?_; rotate_left; intro w h; (try dsimp only at h); first | (go_simp; done) | (go_simp; with_reducible rfl)) | refine skR 27 rfl (fun _ => hS) (by rfl) ?_); simp only [zq1, zq2, zq3, Act.put, zq4, zq5, zq6]
  (first | (refine tkR 28 (v := ?_) rfl hS ⟨by rfl, ?_⟩ ?_; rotate_left; intro w h; (try dsimp only at h); first | (go_simp; done) | (go_simp; with_reducible rfl)) | refine skR 28 rfl (fun _ => hS) (by rfl) ?_); simp only [zq1, zq2, zq3, Act.put, zq4, zq5, zq6]
  (first | (refine tkR 29 (v := ?_) rfl hS ⟨by rfl, ?_⟩ ?_; rotate_left; intro w h; (try dsimp only at h); first | (go_simp; done) | (go_simp; with_reducible rfl)) | refine skR 29 rfl (fun _ => hS) (by rfl) ?_); simp only [zq1, zq2, zq3, Act.put, zq4, zq5, zq6]
  (first | (refine tkR 30 (v := ?_) rfl hS ⟨by rfl, ?_⟩ ?_; rotate_left; intro w h; (try dsimp only at h); first | (go_simp; done) | (go_simp; with_reducible rfl)) | refine skR 30 rfl (fun _ => hS) (by rfl) ?_); simp only [zq1, zq2, zq3, Act.put, zq4, zq5, zq6]
  (first | (refine tkR 31 (v := ?_) rfl hS ⟨by rfl, ?_⟩ ?_; rotate_left; intro w h; (try dsimp only at h); first | (go_simp; done) | (go_simp; with_reducible rfl)) | refine skR 31 rfl (fun _ => hS) (by rfl) ?_); simp only [zq1, zq2, zq3, Act.put, zq4, zq5, zq6]
  (first | (refine tkR 32 (v := ?_) rfl hS ⟨by rfl, ?_⟩ ?_; rotate_left; intro w h; (try dsimp only at h); first | (go_simp; done) | (go_simp; with_reducible rfl)) | refine skR 32 rfl (fun _ => hS) (by rfl) ?_); simp only [zq1, zq2, zq3, Act.put, zq4, zq5, zq6]
  (first | (refine tkR 33 (v := ?_) rfl hS ⟨by rfl, ?_⟩ ?_; rotate_left; intro w h; (try dsimp only at h); first | (go_simp; done) | (go_simp; with_reducible rfl)) | refine skR 33 rfl (fun _ => hS) (by rfl) ?_); simp only [zq1, zq2, zq3, Act.put, zq4, zq5, zq6]
  (first | (refine tkR 34 (v := ?_) rfl hS ⟨by rfl, ?_⟩ ?_; rotate_left; intro w h; (try dsimp only at h); first | (go_simp; done) | (go_simp; with_reducible rfl)) | refine skR 34 rfl (fun _ => hS) (by rfl) ?_); simp only [zq1, zq2, zq3, Act.put, zq4, zq5, zq6]
  (first | (refine tkR 35 (v := ?_) rfl hS ⟨by rfl, ?_⟩ ?_; rotate_left; intro w h; (try dsimp only at h); first | (go_simp; done) | (go_simp; with_reducible rfl)) | refine skR 35 rfl (fun _ => hS) (by rfl) ?_); simp only [zq1, zq2, zq3, Act.put, zq4, zq5, zq6]
  refine wpAnyR_one 36 rfl (by kernel_rfl) (fun K hK => ?_)
  go_simp
  refine hK.out _ _ (fun h => absurd h (by decide)) ?_
  clear hK K
  refine wpAnyR_done (by kernel_rfl) ?_ _
  have u0 := HR4.out.cell 0
  have u1 := HR4.out.cell 1
  have u2 := HR4.out.cell 2
  have u3 := HR4.out.cell 3
  have u4 := HR4.out.cell 4
  have u5 := HR4.out.cell 5
  have u6 := HR4.out.cell 6
  go_wp2_with fail
  exact bodyPost_ret (v := .agg #[.int .i64 (n0 : Int), .int .i64 (n1 : Int), .int .i64 (n2 : Int), .int .i64 (n3 : Int), .int .i64 (n4 : Int), .int .i64 (n5 : Int), .int .i64 (n6 : Int)]) (by simp [results, Tryz.results9, go_sem, u0, u1, u2, u3, u4, u5, u6]) rfl ⟨rfl, HK4.out⟩
section
variable {w : World} {rb B n : Nat} {fl tl ml gl el' dl il : Value} {F : Nat → Value}
set_option maxRecDepth 100000 in
set_option maxHeartbeats 3200000 in
theorem rtt_any (a ob base N : Nat) (el mn mx : Int) (bd : Bool) (lv : Value) (f : Nat → V3) (hb : Blk w rb 89 (rCells fl tl ml gl el' dl il)) (hown : Own w B 161 1 AnyV tl n F) (hn : n ≤ 65536) (ha : a < n) (hF : F a = .pointer (some ⟨ob, 0, none⟩)) (ho : T20.RefAt w ob base N el mn mx bd lv f) (hN : N ≤ 16384) :
    Calls Tryz.prog 36 #[.pointer (some ⟨rb, 0, none⟩), .int .i64 (a : Int)] w fun e w' => e = .returned (.agg #[.int .u8 el, .int .u32 (N : Int), .int .u32 mx, .bool bd]) ∧ Kept S0 w w' := by
  obtain ⟨g, fc, hfl, _, _⟩ := hown.is_some (by omega)
  subst hfl
  obtain ⟨oA, oc, hov, _, _, _⟩ := ho.own.out
  subst hov
  have hka : Kept S0 w (w.alloc (.cells #[.int .u8 0, .int .u32 0, .int .u32 0, .bool false] 31)) := (Kept.refl S0 w).alloc _
  have hkb : Kept S0 w ((w.alloc (.cells #[.int .u8 0, .int .u32 0, .int .u32 0, .bool false] 31)).alloc (.cells #[.int .u8 el, .int .u32 mn, .int .u32 mx, .bool bd] 31)) := hka.alloc _
  have a1 : (w.alloc (.cells #[.int .u8 0, .int .u32 0, .int .u32 0, .bool false] 31)).cell? ⟨rb, 1, none⟩ = some (.slice (some ⟨g, 0, none⟩) n fc) := (hka.blk hb (fun x => x)).cell 1
  have b1 : ((w.alloc (.cells #[.int .u8 0, .int .u32 0, .int .u32 0, .bool false] 31)).alloc (.cells #[.int .u8 el, .int .u32 mn, .int .u32 mx, .bool bd] 31)).cell? ⟨rb, 1, none⟩ = some (.slice (some ⟨g, 0, none⟩) n fc) := (hkb.blk hb (fun x => x)).cell 1
  have a2 : (w.alloc (.cells #[.int .u8 0, .int .u32 0, .int .u32 0, .bool false] 31)).cell? ⟨g, a, none⟩ = some (.pointer (some ⟨ob, 0, none⟩)) := ((hown.kept hka (fun _ _ x => x)).rowcell (j := a) (by omega)).trans (congrArg some hF)
  have b2 : ((w.alloc (.cells #[.int .u8 0, .int .u32 0, .int .u32 0, .bool false] 31)).alloc (.cells #[.int .u8 el, .int .u32 mn, .int .u32 mx, .bool bd] 31)).cell? ⟨g, a, none⟩ = some (.pointer (some ⟨ob, 0, none⟩)) := ((hown.kept hkb (fun _ _ x => x)).rowcell (j := a) (by omega)).trans (congrArg some hF)
  have p0 := (ho.kept0 hka).c0
  have p1 := (ho.kept0 hka).c1
  have p2 := (ho.kept0 hka).c2
  have p3 := (ho.kept0 hka).c3
  have p4 := (ho.kept0 hkb).c4
  have i0 : (0 : Int) ≤ (a : Int) := by omega
  have i1 : (a : Int) < (n : Int) := by omega
  have un : IntKind.u32.wrap (N : Int) = (N : Int) := IntWalk.u32_in _ (by omega)
  have HR := Lib.hid (show Blk ((w.alloc (.cells #[.int .u8 0, .int .u32 0, .int .u32 0, .bool false] 31)).alloc (.cells #[.int .u8 el, .int .u32 (N : Int), .int .u32 mx, .bool bd] 31)) (w.heap.size + 1) 31 #[.int .u8 el, .int .u32 (N : Int), .int .u32 mx, .bool bd] from Blk.new1 w _ _ _)
  have hz := (Blk.new w 31 #[.int .u8 0, .int .u32 0, .int .u32 0, .bool false]).alloc (.cells #[.int .u8 el, .int .u32 (N : Int), .int .u32 mx, .bool bd] 31)
  have q0 : ((w.alloc (.cells #[.int .u8 0, .int .u32 0, .int .u32 0, .bool false] 31)).alloc (.cells #[.int .u8 el, .int .u32 (N : Int), .int .u32 mx, .bool bd] 31)).cell? ⟨w.heap.size + 1, 0, none⟩ = some (.int .u8 el) := HR.out.cell 0
  have q1 : ((w.alloc (.cells #[.int .u8 0, .int .u32 0, .int .u32 0, .bool false] 31)).alloc (.cells #[.int .u8 el, .int .u32 (N : Int), .int .u32 mx, .bool bd] 31)).cell? ⟨w.heap.size + 1, 1, none⟩ = some (.int .u32 (N : Int)) := HR.out.cell 1
  have q2 : ((w.alloc (.cells #[.int .u8 0, .int .u32 0, .int .u32 0, .bool false] 31)).alloc (.cells #[.int .u8 el, .int .u32 (N : Int), .int .u32 mx, .bool bd] 31)).cell? ⟨w.heap.size + 1, 2, none⟩ = some (.int .u32 mx) := HR.out.cell 2
  have q3 : ((w.alloc (.cells #[.int .u8 0, .int .u32 0, .int .u32 0, .bool false] 31)).alloc (.cells #[.int .u8 el, .int .u32 (N : Int), .int .u32 mx, .bool bd] 31)).cell? ⟨w.heap.size + 1, 3, none⟩ = some (.bool bd) := HR.out.cell 3
  have z0 := hz.cell 0
  have y0 := hz.frozen 0
  have z1 := hz.cell 1
  have y1 := hz.frozen 1
  have z2 := hz.cell 2
  have y2 := hz.frozen 2
  have z3 := hz.cell 3
  have y3 := hz.frozen 3
  have HZ := Lib.hid hz
  clear hb hown ho hF hka hkb hz
  go_enter Tryz.func36, Tryz.ntmps36
  go_wp2_with fail
  have hB := (Blk.new w 31 #[.int .u8 el, .int .u32 (N : Int), .int .u32 mx, .bool bd]).alloc (.cells #[.int .u8 el, .int .u32 (N : Int), .int .u32 mx, .bool bd] 31)
  have r0 := hB.cell 0
  have r1 := hB.cell 1
  have r2 := hB.cell 2
  have r3 := hB.cell 3
  exact bodyPost_ret (v := .agg #[.int .u8 el, .int .u32 (N : Int), .int .u32 mx, .bool bd]) (by simp [results, Tryz.results36, go_sem, r0, r1, r2, r3]) rfl ⟨rfl, ((Kept.refl S0 w).alloc _).alloc _⟩
set_option maxRecDepth 100000 in
set_option maxHeartbeats 3200000 in
theorem rmt_any (a ob base N : Nat) (mn mx : Int) (bd : Bool) (lv : Value) (f : Nat → UInt8) (hb : Blk w rb 89 (rCells fl tl ml gl el' dl il)) (hown : Own w B 194 1 AnyV ml n F) (hn : n ≤ 65536) (ha : a < n) (hF : F a = .pointer (some ⟨ob, 0, none⟩)) (ho : M19.RMemAt w ob base (N * 65536) mn mx bd lv f) (hN : N ≤ 16) :
    Calls Tryz.prog 38 #[.pointer (some ⟨rb, 0, none⟩), .int .i64 (a : Int)] w fun e w' => e = .returned (.agg #[.int .u32 (N : Int), .int .u32 mx, .bool bd]) ∧ Kept S0 w w' := by
  obtain ⟨g, fc, hfl, _, _⟩ := hown.is_some (by omega)
  subst hfl
  obtain ⟨oA, oc, hov, _, _, _⟩ := ho.own.out
  subst hov
  have hka : Kept S0 w (w.alloc (.cells #[.int .u32 0, .int .u32 0, .bool false] 29)) := (Kept.refl S0 w).alloc _
  have hkb : Kept S0 w ((w.alloc (.cells #[.int .u32 0, .int .u32 0, .bool false] 29)).alloc (.cells #[.int .u32 mn, .int .u32 mx, .bool bd] 29)) := hka.alloc _
  have a1 : (w.alloc (.cells #[.int .u32 0, .int .u32 0, .bool false] 29)).cell? ⟨rb, 2, none⟩ = some (.slice (some ⟨g, 0, none⟩) n fc) := (hka.blk hb (fun x => x)).cell 2
  have b1 : ((w.alloc (.cells #[.int .u32 0, .int .u32 0, .bool false] 29)).alloc (.cells #[.int .u32 mn, .int .u32 mx, .bool bd] 29)).cell? ⟨rb, 2, none⟩ = some (.slice (some ⟨g, 0, none⟩) n fc) := (hkb.blk hb (fun x => x)).cell 2
  have a2 : (w.alloc (.cells #[.int .u32 0, .int .u32 0, .bool false] 29)).cell? ⟨g, a, none⟩ = some (.pointer (some ⟨ob, 0, none⟩)) := ((hown.kept hka (fun _ _ x => x)).rowcell (j := a) (by omega)).trans (congrArg some hF)
  have b2 : ((w.alloc (.cells #[.int .u32 0, .int .u32 0, .bool false] 29)).alloc (.cells #[.int .u32 mn, .int .u32 mx, .bool bd] 29)).cell? ⟨g, a, none⟩ = some (.pointer (some ⟨ob, 0, none⟩)) := ((hown.kept hkb (fun _ _ x => x)).rowcell (j := a) (by omega)).trans (congrArg some hF)
  have p0 := (ho.kept0 hka).c0
  have p1 := (ho.kept0 hka).c1
  have p2 := (ho.kept0 hka).c2
  have p3 := (ho.kept0 hkb).c3
  have i0 : (0 : Int) ≤ (a : Int) := by omega
  have i1 : (a : Int) < (n : Int) := by omega
  have un : IntKind.u32.wrap ((N * 65536 : Nat) / 65536 : Int) = (N : Int) := by rw [show ((N * 65536 : Nat) / 65536 : Int) = (N : Int) by omega]; exact IntWalk.u32_in _ (by omega)
  have HR := Lib.hid (show Blk ((w.alloc (.cells #[.int .u32 0, .int .u32 0, .bool false] 29)).alloc (.cells #[.int .u32 (N : Int), .int .u32 mx, .bool bd] 29)) (w.heap.size + 1) 29 #[.int .u32 (N : Int), .int .u32 mx, .bool bd] from Blk.new1 w _ _ _)
  have hz := (Blk.new w 29 #[.int .u32 0, .int .u32 0, .bool false]).alloc (.cells #[.int .u32 (N : Int), .int .u32 mx, .bool bd] 29)
  have q0 : ((w.alloc (.cells #[.int .u32 0, .int .u32 0, .bool false] 29)).alloc (.cells #[.int .u32 (N : Int), .int .u32 mx, .bool bd] 29)).cell? ⟨w.heap.size + 1, 0, none⟩ = some (.int .u32 (N : Int)) := HR.out.cell 0
  have q1 : ((w.alloc (.cells #[.int .u32 0, .int .u32 0, .bool false] 29)).alloc (.cells #[.int .u32 (N : Int), .int .u32 mx, .bool bd] 29)).cell? ⟨w.heap.size + 1, 1, none⟩ = some (.int .u32 mx) := HR.out.cell 1
  have q2 : ((w.alloc (.cells #[.int .u32 0, .int .u32 0, .bool false] 29)).alloc (.cells #[.int .u32 (N : Int), .int .u32 mx, .bool bd] 29)).cell? ⟨w.heap.size + 1, 2, none⟩ = some (.bool bd) := HR.out.cell 2
  have z0 := hz.cell 0
  have y0 := hz.frozen 0
  have z1 := hz.cell 1
  have y1 := hz.frozen 1
  have z2 := hz.cell 2
  have y2 := hz.frozen 2
  have HZ := Lib.hid hz
  clear hb hown ho hF hka hkb hz
  go_enter Tryz.func38, Tryz.ntmps38
  go_wp2_with fail
  have hB := (Blk.new w 29 #[.int .u32 (N : Int), .int .u32 mx, .bool bd]).alloc (.cells #[.int .u32 (N : Int), .int .u32 mx, .bool bd] 29)
  have r0 := hB.cell 0
  have r1 := hB.cell 1
  have r2 := hB.cell 2
  exact bodyPost_ret (v := .agg #[.int .u32 (N : Int), .int .u32 mx, .bool bd]) (by simp [results, Tryz.results38, go_sem, r0, r1, r2]) rfl ⟨rfl, ((Kept.refl S0 w).alloc _).alloc _⟩
end
end Go.Proofs.YtlnkdnmeikpckaaGreat
namespace Go.Proofs.YtlnkdnmeikpckaaGreat.T20
open Go.RowKit
set_option maxRecDepth 100000
section
variable {w : World} {tb base N : Nat} {el mn mx : Int} {bd : Bool} {lv : Value} {f : Nat → V3}
set_option maxHeartbeats 1600000 in
theorem type_made (hm : TabAt w tb base N el mn mx bd lv f) (hN : N ≤ 16384) :
    Calls Tryz.prog 17 #[.pointer (some ⟨tb, 0, none⟩)] w fun e w' => e = .returned (.agg #[.int .u8 el, .int .u32 (N : Int), .int .u32 mx, .bool bd]) ∧ Kept S0 w w' := by
  obtain ⟨A, c, hlv, _, _, _⟩ := hm.own.out
  have hka : Kept S0 w (w.alloc (.cells #[.int .u8 0, .int .u32 0, .int .u32 0, .bool false] 31)) := (Kept.refl S0 w).alloc _
  have hm1 := hm.kept0 hka
  have c0 := hm1.c0
  have c1 := hm1.c1
  have c2 := hm1.c2
  have c3 := hm1.c3
  have c4 := hm1.c4
  have hkb : Kept S0 w ((w.alloc (.cells #[.int .u8 0, .int .u32 0, .int .u32 0, .bool false] 31)).alloc (.cells #[.int .u8 el, .int .u32 mn, .int .u32 mx, .bool bd] 31)) := hka.alloc _
  have HM2 := Lib.hid (hm.kept0 hkb)
  have HL := Lib.hid hlv
  clear hm hm1 hlv
  go_enter Tryz.func17, Tryz.ntmps17
  go_wp2_with fail
  refine (off_made _ _ c0).mono ?_
  rintro e w1 ⟨rfl, rfl⟩
  go_wp2_with fail
  have d5 := HM2.out.c5
  rw [HL.out] at d5
  have d0 := HM2.out.c0
  refine (size_made tb _ A N c d0 d5 hN).mono ?_
  rintro e w1 ⟨rfl, rfl⟩
  go_wp2_with fail
  have hB := (Blk.new w 31 #[.int .u8 el, .int .u32 (N : Int), .int .u32 mx, .bool bd]).alloc (.cells #[.int .u8 el, .int .u32 (N : Int), .int .u32 mx, .bool bd] 31)
  have r0 := hB.cell 0
  have r1 := hB.cell 1
  have r2 := hB.cell 2
  have r3 := hB.cell 3
  exact bodyPost_ret (v := .agg #[.int .u8 el, .int .u32 (N : Int), .int .u32 mx, .bool bd]) (by simp [results, Tryz.results17, go_sem, r0, r1, r2, r3]) rfl ⟨rfl, ((Kept.refl S0 w).alloc _).alloc _⟩
end
end Go.Proofs.YtlnkdnmeikpckaaGreat.T20
namespace Go.Proofs.YtlnkdnmeikpckaaGreat
open Go.RowKit
set_option maxRecDepth 100000
/-- What Fits answers of what is there. -/
def fitR (same ok : Bool) : Int := if same && ok then 0 else 10
set_option maxHeartbeats 800000 in
theorem ttype_nil (w : World) : Calls Tryz.prog 17 #[.pointer none] w fun e w' => e = .returned (.agg #[.int .u8 0, .int .u32 0, .int .u32 0, .bool false]) ∧ Kept S0 w w' := by
  go_enter Tryz.func17, Tryz.ntmps17
  go_wp2_with fail
  refine (T20.off_nil _).mono ?_
  rintro e w1 ⟨rfl, rfl⟩
  go_wp2_with fail
  have hB := Blk.new w 31 #[.int .u8 0, .int .u32 0, .int .u32 0, .bool false]
  have r0 := hB.cell 0
  have r1 := hB.cell 1
  have r2 := hB.cell 2
  have r3 := hB.cell 3
  exact bodyPost_ret (v := .agg #[.int .u8 0, .int .u32 0, .int .u32 0, .bool false]) (by simp [results, Tryz.results17, go_sem, r0, r1, r2, r3]) rfl ⟨rfl, (Kept.refl S0 w).alloc _⟩
set_option maxHeartbeats 800000 in
theorem mtype_nil (w : World) : Calls Tryz.prog 19 #[.pointer none] w fun e w' => e = .returned (.agg #[.int .u32 0, .int .u32 0, .bool false]) ∧ Kept S0 w w' := by
  go_enter Tryz.func19, Tryz.ntmps19
  go_wp2_with fail
  refine (M19.off_nil _).mono ?_
  rintro e w1 ⟨rfl, rfl⟩
  go_wp2_with fail
  have hB := Blk.new w 29 #[.int .u32 0, .int .u32 0, .bool false]
  have r0 := hB.cell 0
  have r1 := hB.cell 1
  have r2 := hB.cell 2
  exact bodyPost_ret (v := .agg #[.int .u32 0, .int .u32 0, .bool false]) (by simp [results, Tryz.results19, go_sem, r0, r1, r2]) rfl ⟨rfl, (Kept.refl S0 w).alloc _⟩
/-- The boxes of what Fits was handed. -/
structure FBox (w : World) (bx : Nat) (ki a : Int) (im : Array Value) (ft : Array Value) : Prop where
  e : Blk w bx 25 #[.int .u8 ki, .int .i64 a]
  i : Blk w (bx + 1) 35 im
  t : Blk w (bx + 2) 38 ft
theorem FBox.kept {w w' : World} {bx : Nat} {ki a : Int} {im ft : Array Value} (h : FBox w bx ki a im ft) (hk : Kept S0 w w') : FBox w' bx ki a im ft := ⟨hk.blk h.e (fun x => x), hk.blk h.i (fun x => x), hk.blk h.t (fun x => x)⟩
theorem fbox_new (w : World) (ki a : Int) (im ft : Array Value) : FBox (((w.alloc (.cells #[.int .u8 ki, .int .i64 a] 25)).alloc (.cells im 35)).alloc (.cells ft 38)) w.heap.size ki a im ft :=
  ⟨((Blk.new w _ _).alloc _).alloc _, (Blk.new1 w _ _ _).alloc _, by
    have h := Blk.new1 (w.alloc (.cells #[.int .u8 ki, .int .i64 a] 25)) (.cells im 35) 38 ft
    simpa using h⟩
section
variable {w : World} {sb B n : Nat} {fl tl ml gl el dl il : Value} {F : Nat → Value}
set_option maxRecDepth 100000 in
set_option maxHeartbeats 3200000 in
theorem fits_table_in (a tp tbase tn : Nat) (tel tmn tx : Int) (tb : Bool) (tlv : Value) (tf : Nat → V3) (hown : Own w B 55 1 AnyV tl n F) (hn : n ≤ 65536) (ha : a < n) (hF : F a = .pointer (some ⟨tp, 0, none⟩)) (ht : T20.TabAt w tp tbase tn tel tmn tx tb tlv tf) (hN : tn ≤ 16384) (s1 s2 : ByteArray) (k fi wl wn wx : Int) (wb : Bool) (mn mx : Int) (mb : Bool) (gt : Int) (gm : Bool) (P R : Option Addr) (mp mr cp cr : Nat) (hb : Blk w sb 132 (stCells fl tl ml gl el dl il)) :
    Calls Tryz.prog 10 #[.pointer (some ⟨sb, 0, none⟩), .agg #[.int .u8 1, .int .i64 (a : Int)], .agg #[.string s1, .string s2, .int .u8 k, .int .u32 fi, .int .u8 wl, .int .u32 wn, .int .u32 wx, .bool wb, .int .u32 mn, .int .u32 mx, .bool mb, .int .u8 gt, .bool gm], .agg #[.slice P mp cp, .slice R mr cr]] w fun e w' => e = .returned (.int .i64 (fitR ((1 : Int) == k) ((tel == wl) && fitLB tn tx tb wn wx wb))) ∧ Kept S0 w w' := by
  have hx := fbox_new w 1 (a : Int) #[.string s1, .string s2, .int .u8 k, .int .u32 fi, .int .u8 wl, .int .u32 wn, .int .u32 wx, .bool wb, .int .u32 mn, .int .u32 mx, .bool mb, .int .u8 gt, .bool gm] #[.slice P mp cp, .slice R mr cr]
  have hka : Kept S0 w (((w.alloc (.cells #[.int .u8 1, .int .i64 (a : Int)] 25)).alloc (.cells #[.string s1, .string s2, .int .u8 k, .int .u32 fi, .int .u8 wl, .int .u32 wn, .int .u32 wx, .bool wb, .int .u32 mn, .int .u32 mx, .bool mb, .int .u8 gt, .bool gm] 35)).alloc (.cells #[.slice P mp cp, .slice R mr cr] 38)) := (((Kept.refl S0 w).alloc _).alloc _).alloc _
  have hba := hka.blk hb (fun x => x)
  have HO := Lib.hid (hown.kept hka (fun _ _ x => x))
  have HT := Lib.hid (ht.kept0 hka)
  have HBA := Lib.hid hba
  have HX := Lib.hid hx
  have HK := Lib.hid hka
  clear hb hba hx hka hown ht
  go_enter Tryz.func10, Tryz.ntmps10
  go_wp2_with fail
  generalize (((w.alloc (.cells #[.int .u8 1, .int .i64 (a : Int)] 25)).alloc (.cells #[.string s1, .string s2, .int .u8 k, .int .u32 fi, .int .u8 wl, .int .u32 wn, .int .u32 wx, .bool wb, .int .u32 mn, .int .u32 mx, .bool mb, .int .u8 gt, .bool gm] 35)).alloc (.cells #[.slice P mp cp, .slice R mr cr] 38)) = wa at *
  generalize hbx : w.heap.size = bx at *
  have c0 : wa.cell? ⟨sb, 0, none⟩ = some (.bool true) := HBA.out.cell 0
  refine (off_made _ _ c0).mono ?_
  rintro e w1 ⟨rfl, rfl⟩
  have e0 : wa.cell? ⟨bx, 0, none⟩ = some (.int .u8 1) := HX.out.e.cell 0
  have e1 : wa.cell? ⟨bx, 1, none⟩ = some (.int .i64 (a : Int)) := HX.out.e.cell 1
  clear c0
  go_wp2_with fail
  refine (gettable_in a (some ⟨tp, 0, none⟩) HBA.out HO.out hn ha hF).mono ?_
  rintro e w1 ⟨rfl, rfl⟩
  clear e0 e1
  go_wp2_with fail
  have hd := (Kept.refl S0 wa).drew
  have hS : wa.drew.cell? ⟨bx + 1, 4, none⟩ = some (.int .u8 wl) ∧ wa.drew.cell? ⟨bx + 1, 4 + 1, none⟩ = some (.int .u32 wn) ∧ wa.drew.cell? ⟨bx + 1, 4 + 2, none⟩ = some (.int .u32 wx) ∧ wa.drew.cell? ⟨bx + 1, 4 + 3, none⟩ = some (.bool wb) := ⟨HX.out.i.cell 4, HX.out.i.cell 5, HX.out.i.cell 6, HX.out.i.cell 7⟩
  refine wp_region_R (fun w' => w'.cell? ⟨bx + 1, 4, none⟩ = some (.int .u8 wl) ∧ w'.cell? ⟨bx + 1, 4 + 1, none⟩ = some (.int .u32 wn) ∧ w'.cell? ⟨bx + 1, 4 + 2, none⟩ = some (.int .u32 wx) ∧ w'.cell? ⟨bx + 1, 4 + 3, none⟩ = some (.bool wb)) [] (by kernel_rfl) ?_
  have HT2 := Lib.hid (HT.out.kept0 hd)
  have HX2 := Lib.hid (HX.out.kept hd)
  have HK2 := Lib.hid HK.out.drew
  clear HT HX HK HO HBA hd
  generalize wa.drew = w2 at *
  (first | (refine tkR 0 (v := ?_) rfl hS ⟨by rfl, ?_⟩ ?_; rotate_left; intro w h; (try dsimp only at h); first | (go_simp; done) | (go_simp; with_reducible rfl)) | refine skR 0 rfl (fun _ => hS) (by rfl) ?_); simp only [zq1, zq2, Act.put, zq4, zq5, zq6]
  (first | (refine tkR 2 (v := ?_) rfl hS ⟨by rfl, ?_⟩ ?_; rotate_left; intro w h; (try dsimp only at h); first | (go_simp; done) | (go_simp; with_reducible rfl)) | refine skR 2 rfl (fun _ => hS) (by rfl) ?_); simp only [zq1, zq2, zq3, Act.put, zq4, zq5, zq6]
  (first | (refine tkR 3 (v := ?_) rfl hS ⟨by rfl, ?_⟩ ?_; rotate_left; intro w h; (try dsimp only at h); first | (go_simp; done) | (go_simp; with_reducible rfl)) | refine skR 3 rfl (fun _ => hS) (by rfl) ?_); simp only [zq1, zq2, zq3, Act.put, zq4, zq5, zq6]
  refine wpAnyR_one 1 rfl (by kernel_rfl) (fun K hK => ?_)
  go_simp
  go_at_call 17
  refine (T20.type_made HT2.out hN).mono ?_
  rintro e w3 ⟨rfl, hk3⟩
  have hS3 : w3.cell? ⟨bx + 1, 4, none⟩ = some (.int .u8 wl) ∧ w3.cell? ⟨bx + 1, 4 + 1, none⟩ = some (.int .u32 wn) ∧ w3.cell? ⟨bx + 1, 4 + 2, none⟩ = some (.int .u32 wx) ∧ w3.cell? ⟨bx + 1, 4 + 3, none⟩ = some (.bool wb) := ⟨keep0 hk3 hS.1, keep0 hk3 hS.2.1, keep0 hk3 hS.2.2.1, keep0 hk3 hS.2.2.2⟩
  refine hK.out _ _ (fun _ => hS3) ?_
  clear hK K
  refine wpAnyR_one 4 rfl (by kernel_rfl) (fun K hK => ?_)
  go_simp
  go_at_call 33
  refine (fittab_any tel (tn : Int) tx wl wn wx tb wb _).mono ?_
  rintro e w4 ⟨rfl, hk4⟩
  have hS4 : w4.cell? ⟨bx + 1, 4, none⟩ = some (.int .u8 wl) ∧ w4.cell? ⟨bx + 1, 4 + 1, none⟩ = some (.int .u32 wn) ∧ w4.cell? ⟨bx + 1, 4 + 2, none⟩ = some (.int .u32 wx) ∧ w4.cell? ⟨bx + 1, 4 + 3, none⟩ = some (.bool wb) := ⟨keep0 hk4 hS3.1, keep0 hk4 hS3.2.1, keep0 hk4 hS3.2.2.1, keep0 hk4 hS3.2.2.2⟩
  refine hK.out _ _ (fun _ => hS4) ?_
  clear hK K
  generalize hok0 : ((tel == wl) && fitLB tn tx tb wn wx wb) = okb at *
  (first | (refine tkR 5 (v := ?_) rfl hS4 ⟨by rfl, ?_⟩ ?_; rotate_left; intro w h; (try dsimp only at h); first | (go_simp; done) | (go_simp; with_reducible rfl)) | refine skR 5 rfl (fun _ => hS4) (by rfl) ?_); simp only [zq1, zq2, zq3, Act.put, zq4, zq5, zq6]
  refine wpAnyR_done (by kernel_rfl) ?_ _
  have HX3 := Lib.hid ((HX2.out.kept hk3).kept hk4)
  have HK4 := Lib.hid ((HK2.out.then0 hk3).then0 hk4)
  have HOK := Lib.hid hok0
  clear hS hS3 hS4 hk3 hk4 HX2 HK2 HT2 hok0
  have e0 := HX3.out.e.cell 0
  have i2 : w4.cell? ⟨bx + 1, 2, none⟩ = some (.int .u8 k) := HX3.out.i.cell 2
  cases hk : ((1 : Int) == k) with
  | false =>
    have hk1 : ((1 : Int) != k) = true := by unfold bne; rw [hk]; rfl
    have HKK := Lib.hid hk
    clear hk
    go_wp2_with fail
    go_ret
    exact ⟨ret_int (by rw [HKK.out]; simp [fitR]), HK4.out⟩
  | true =>
    have hk1 : ((1 : Int) != k) = false := by unfold bne; rw [hk]; rfl
    have HKK := Lib.hid hk
    clear hk
    cases hok : (okb : Bool) with
    | false =>
      have HO2 := Lib.hid (HOK.out.trans hok)
      subst hok
      go_wp2_with fail
      go_ret
      exact ⟨ret_int (by rw [HKK.out, HO2.out]; rfl), HK4.out⟩
    | true =>
      have HO2 := Lib.hid (HOK.out.trans hok)
      subst hok
      go_wp2_with fail
      go_ret
      exact ⟨ret_int (by rw [HKK.out, HO2.out]; rfl), HK4.out⟩
set_option maxRecDepth 100000 in
set_option maxHeartbeats 3200000 in
theorem fits_table_out (a : Int) (hown : Own w B 55 1 AnyV tl n F) (hn : n ≤ 65536) (ha : a < 0 ∨ (n : Int) ≤ a) (s1 s2 : ByteArray) (k fi wl wn wx : Int) (wb : Bool) (mn mx : Int) (mb : Bool) (gt : Int) (gm : Bool) (P R : Option Addr) (mp mr cp cr : Nat) (hb : Blk w sb 132 (stCells fl tl ml gl el dl il)) :
    Calls Tryz.prog 10 #[.pointer (some ⟨sb, 0, none⟩), .agg #[.int .u8 1, .int .i64 a], .agg #[.string s1, .string s2, .int .u8 k, .int .u32 fi, .int .u8 wl, .int .u32 wn, .int .u32 wx, .bool wb, .int .u32 mn, .int .u32 mx, .bool mb, .int .u8 gt, .bool gm], .agg #[.slice P mp cp, .slice R mr cr]] w fun e w' => e = .returned (.int .i64 11) ∧ Kept S0 w w' := by
  have hx := fbox_new w 1 a #[.string s1, .string s2, .int .u8 k, .int .u32 fi, .int .u8 wl, .int .u32 wn, .int .u32 wx, .bool wb, .int .u32 mn, .int .u32 mx, .bool mb, .int .u8 gt, .bool gm] #[.slice P mp cp, .slice R mr cr]
  have hka : Kept S0 w (((w.alloc (.cells #[.int .u8 1, .int .i64 a] 25)).alloc (.cells #[.string s1, .string s2, .int .u8 k, .int .u32 fi, .int .u8 wl, .int .u32 wn, .int .u32 wx, .bool wb, .int .u32 mn, .int .u32 mx, .bool mb, .int .u8 gt, .bool gm] 35)).alloc (.cells #[.slice P mp cp, .slice R mr cr] 38)) := (((Kept.refl S0 w).alloc _).alloc _).alloc _
  have hba := hka.blk hb (fun x => x)
  have HO := Lib.hid (hown.kept hka (fun _ _ x => x))
  have HBA := Lib.hid hba
  have HX := Lib.hid hx
  have HK := Lib.hid hka
  have HA := Lib.hid ha
  clear hb hba hx hka hown ha
  go_enter Tryz.func10, Tryz.ntmps10
  go_wp2_with fail
  generalize (((w.alloc (.cells #[.int .u8 1, .int .i64 a] 25)).alloc (.cells #[.string s1, .string s2, .int .u8 k, .int .u32 fi, .int .u8 wl, .int .u32 wn, .int .u32 wx, .bool wb, .int .u32 mn, .int .u32 mx, .bool mb, .int .u8 gt, .bool gm] 35)).alloc (.cells #[.slice P mp cp, .slice R mr cr] 38)) = wa at *
  generalize hbx : w.heap.size = bx at *
  have c0 : wa.cell? ⟨sb, 0, none⟩ = some (.bool true) := HBA.out.cell 0
  refine (off_made _ _ c0).mono ?_
  rintro e w1 ⟨rfl, rfl⟩
  have e0 : wa.cell? ⟨bx, 0, none⟩ = some (.int .u8 1) := HX.out.e.cell 0
  have e1 : wa.cell? ⟨bx, 1, none⟩ = some (.int .i64 a) := HX.out.e.cell 1
  clear c0
  go_wp2_with fail
  refine (gettable_out a HBA.out HO.out hn HA.out).mono ?_
  rintro e w1 ⟨rfl, rfl⟩
  clear e0 e1
  go_wp2_with fail
  have hd := (Kept.refl S0 wa).drew
  have hS : wa.drew.cell? ⟨bx + 1, 4, none⟩ = some (.int .u8 wl) ∧ wa.drew.cell? ⟨bx + 1, 4 + 1, none⟩ = some (.int .u32 wn) ∧ wa.drew.cell? ⟨bx + 1, 4 + 2, none⟩ = some (.int .u32 wx) ∧ wa.drew.cell? ⟨bx + 1, 4 + 3, none⟩ = some (.bool wb) := ⟨HX.out.i.cell 4, HX.out.i.cell 5, HX.out.i.cell 6, HX.out.i.cell 7⟩
  refine wp_region_R (fun w' => w'.cell? ⟨bx + 1, 4, none⟩ = some (.int .u8 wl) ∧ w'.cell? ⟨bx + 1, 4 + 1, none⟩ = some (.int .u32 wn) ∧ w'.cell? ⟨bx + 1, 4 + 2, none⟩ = some (.int .u32 wx) ∧ w'.cell? ⟨bx + 1, 4 + 3, none⟩ = some (.bool wb)) [] (by kernel_rfl) ?_
  have HK2 := Lib.hid HK.out.drew
  clear HX HK HO HBA hd
  generalize wa.drew = w2 at *
  (first | (refine tkR 0 (v := ?_) rfl hS ⟨by rfl, ?_⟩ ?_; rotate_left; intro w h; (try dsimp only at h); first | (go_simp; done) | (go_simp; with_reducible rfl)) | refine skR 0 rfl (fun _ => hS) (by rfl) ?_); simp only [zq1, zq2, Act.put, zq4, zq5, zq6]
  (first | (refine tkR 2 (v := ?_) rfl hS ⟨by rfl, ?_⟩ ?_; rotate_left; intro w h; (try dsimp only at h); first | (go_simp; done) | (go_simp; with_reducible rfl)) | refine skR 2 rfl (fun _ => hS) (by rfl) ?_); simp only [zq1, zq2, zq3, Act.put, zq4, zq5, zq6]
  (first | (refine tkR 3 (v := ?_) rfl hS ⟨by rfl, ?_⟩ ?_; rotate_left; intro w h; (try dsimp only at h); first | (go_simp; done) | (go_simp; with_reducible rfl)) | refine skR 3 rfl (fun _ => hS) (by rfl) ?_); simp only [zq1, zq2, zq3, Act.put, zq4, zq5, zq6]
  refine wpAnyR_one 1 rfl (by kernel_rfl) (fun K hK => ?_)
  go_simp
  go_at_call 17
  refine (ttype_nil _).mono ?_
  rintro e w3 ⟨rfl, hk3⟩
  have hS3 : w3.cell? ⟨bx + 1, 4, none⟩ = some (.int .u8 wl) ∧ w3.cell? ⟨bx + 1, 4 + 1, none⟩ = some (.int .u32 wn) ∧ w3.cell? ⟨bx + 1, 4 + 2, none⟩ = some (.int .u32 wx) ∧ w3.cell? ⟨bx + 1, 4 + 3, none⟩ = some (.bool wb) := ⟨keep0 hk3 hS.1, keep0 hk3 hS.2.1, keep0 hk3 hS.2.2.1, keep0 hk3 hS.2.2.2⟩
  refine hK.out _ _ (fun _ => hS3) ?_
  clear hK K
  refine wpAnyR_one 4 rfl (by kernel_rfl) (fun K hK => ?_)
  go_simp
  go_at_call 33
  refine (fittab_any 0 0 0 wl wn wx false wb _).mono ?_
  rintro e w4 ⟨rfl, hk4⟩
  have hS4 : w4.cell? ⟨bx + 1, 4, none⟩ = some (.int .u8 wl) ∧ w4.cell? ⟨bx + 1, 4 + 1, none⟩ = some (.int .u32 wn) ∧ w4.cell? ⟨bx + 1, 4 + 2, none⟩ = some (.int .u32 wx) ∧ w4.cell? ⟨bx + 1, 4 + 3, none⟩ = some (.bool wb) := ⟨keep0 hk4 hS3.1, keep0 hk4 hS3.2.1, keep0 hk4 hS3.2.2.1, keep0 hk4 hS3.2.2.2⟩
  refine hK.out _ _ (fun _ => hS4) ?_
  clear hK K
  (first | (refine tkR 5 (v := ?_) rfl hS4 ⟨by rfl, ?_⟩ ?_; rotate_left; intro w h; (try dsimp only at h); first | (go_simp; done) | (go_simp; with_reducible rfl)) | refine skR 5 rfl (fun _ => hS4) (by rfl) ?_); simp only [zq1, zq2, zq3, Act.put, zq4, zq5, zq6]
  refine wpAnyR_done (by kernel_rfl) ?_ _
  have HK4 := Lib.hid ((HK2.out.then0 hk3).then0 hk4)
  clear hS hS3 hS4 hk3 hk4 HK2
  go_wp2_with fail
  go_ret
  exact ⟨rfl, HK4.out⟩
set_option maxRecDepth 100000 in
set_option maxHeartbeats 3200000 in
theorem fits_mem_in (a tp tbb tn : Nat) (tmn tx : Int) (tb : Bool) (tf : Nat → UInt8) (hown : Own w B 59 1 AnyV ml n F) (hn : n ≤ 65536) (ha : a < n) (hF : F a = .pointer (some ⟨tp, 0, none⟩)) (ht : M19.MemAt w tp tbb tn tmn tx tb tf) (hN : tn ≤ 1048576) (s1 s2 : ByteArray) (k fi wl wn wx : Int) (wb : Bool) (mn mx : Int) (mb : Bool) (gt : Int) (gm : Bool) (P R : Option Addr) (mp mr cp cr : Nat) (hb : Blk w sb 132 (stCells fl tl ml gl el dl il)) :
    Calls Tryz.prog 10 #[.pointer (some ⟨sb, 0, none⟩), .agg #[.int .u8 2, .int .i64 (a : Int)], .agg #[.string s1, .string s2, .int .u8 k, .int .u32 fi, .int .u8 wl, .int .u32 wn, .int .u32 wx, .bool wb, .int .u32 mn, .int .u32 mx, .bool mb, .int .u8 gt, .bool gm], .agg #[.slice P mp cp, .slice R mr cr]] w fun e w' => e = .returned (.int .i64 (fitR ((2 : Int) == k) (fitLB ((tn / 65536 : Nat) : Int) tx tb mn mx mb))) ∧ Kept S0 w w' := by
  have hx := fbox_new w 2 (a : Int) #[.string s1, .string s2, .int .u8 k, .int .u32 fi, .int .u8 wl, .int .u32 wn, .int .u32 wx, .bool wb, .int .u32 mn, .int .u32 mx, .bool mb, .int .u8 gt, .bool gm] #[.slice P mp cp, .slice R mr cr]
  have hka : Kept S0 w (((w.alloc (.cells #[.int .u8 2, .int .i64 (a : Int)] 25)).alloc (.cells #[.string s1, .string s2, .int .u8 k, .int .u32 fi, .int .u8 wl, .int .u32 wn, .int .u32 wx, .bool wb, .int .u32 mn, .int .u32 mx, .bool mb, .int .u8 gt, .bool gm] 35)).alloc (.cells #[.slice P mp cp, .slice R mr cr] 38)) := (((Kept.refl S0 w).alloc _).alloc _).alloc _
  have hba := hka.blk hb (fun x => x)
  have HO := Lib.hid (hown.kept hka (fun _ _ x => x))
  have HT := Lib.hid (ht.kept0 hka)
  have HBA := Lib.hid hba
  have HX := Lib.hid hx
  have HK := Lib.hid hka
  clear hb hba hx hka hown ht
  go_enter Tryz.func10, Tryz.ntmps10
  go_wp2_with fail
  generalize (((w.alloc (.cells #[.int .u8 2, .int .i64 (a : Int)] 25)).alloc (.cells #[.string s1, .string s2, .int .u8 k, .int .u32 fi, .int .u8 wl, .int .u32 wn, .int .u32 wx, .bool wb, .int .u32 mn, .int .u32 mx, .bool mb, .int .u8 gt, .bool gm] 35)).alloc (.cells #[.slice P mp cp, .slice R mr cr] 38)) = wa at *
  generalize hbx : w.heap.size = bx at *
  have c0 : wa.cell? ⟨sb, 0, none⟩ = some (.bool true) := HBA.out.cell 0
  refine (off_made _ _ c0).mono ?_
  rintro e w1 ⟨rfl, rfl⟩
  have e0 : wa.cell? ⟨bx, 0, none⟩ = some (.int .u8 2) := HX.out.e.cell 0
  have e1 : wa.cell? ⟨bx, 1, none⟩ = some (.int .i64 (a : Int)) := HX.out.e.cell 1
  clear c0
  go_wp2_with fail
  refine (getmem_in a (some ⟨tp, 0, none⟩) HBA.out HO.out hn ha hF).mono ?_
  rintro e w1 ⟨rfl, rfl⟩
  clear e0 e1
  go_wp2_with fail
  have hd := (Kept.refl S0 wa).drew
  have hS : wa.drew.cell? ⟨bx + 1, 8, none⟩ = some (.int .u32 mn) ∧ wa.drew.cell? ⟨bx + 1, 8 + 1, none⟩ = some (.int .u32 mx) ∧ wa.drew.cell? ⟨bx + 1, 8 + 2, none⟩ = some (.bool mb) := ⟨HX.out.i.cell 8, HX.out.i.cell 9, HX.out.i.cell 10⟩
  refine wp_region_R (fun w' => w'.cell? ⟨bx + 1, 8, none⟩ = some (.int .u32 mn) ∧ w'.cell? ⟨bx + 1, 8 + 1, none⟩ = some (.int .u32 mx) ∧ w'.cell? ⟨bx + 1, 8 + 2, none⟩ = some (.bool mb)) [] (by kernel_rfl) ?_
  have HT2 := Lib.hid (HT.out.kept0 hd)
  have HX2 := Lib.hid (HX.out.kept hd)
  have HK2 := Lib.hid HK.out.drew
  clear HT HX HK HO HBA hd
  generalize wa.drew = w2 at *
  (first | (refine tkR 0 (v := ?_) rfl hS ⟨by rfl, ?_⟩ ?_; rotate_left; intro w h; (try dsimp only at h); first | (go_simp; done) | (go_simp; with_reducible rfl)) | refine skR 0 rfl (fun _ => hS) (by rfl) ?_); simp only [zq1, zq2, Act.put, zq4, zq5, zq6]
  (first | (refine tkR 2 (v := ?_) rfl hS ⟨by rfl, ?_⟩ ?_; rotate_left; intro w h; (try dsimp only at h); first | (go_simp; done) | (go_simp; with_reducible rfl)) | refine skR 2 rfl (fun _ => hS) (by rfl) ?_); simp only [zq1, zq2, zq3, Act.put, zq4, zq5, zq6]
  (first | (refine tkR 3 (v := ?_) rfl hS ⟨by rfl, ?_⟩ ?_; rotate_left; intro w h; (try dsimp only at h); first | (go_simp; done) | (go_simp; with_reducible rfl)) | refine skR 3 rfl (fun _ => hS) (by rfl) ?_); simp only [zq1, zq2, zq3, Act.put, zq4, zq5, zq6]
  refine wpAnyR_one 1 rfl (by kernel_rfl) (fun K hK => ?_)
  go_simp
  go_at_call 19
  refine (M19.type_made HT2.out hN).mono ?_
  rintro e w3 ⟨rfl, hk3⟩
  have hS3 : w3.cell? ⟨bx + 1, 8, none⟩ = some (.int .u32 mn) ∧ w3.cell? ⟨bx + 1, 8 + 1, none⟩ = some (.int .u32 mx) ∧ w3.cell? ⟨bx + 1, 8 + 2, none⟩ = some (.bool mb) := ⟨keep0 hk3 hS.1, keep0 hk3 hS.2.1, keep0 hk3 hS.2.2⟩
  refine hK.out _ _ (fun _ => hS3) ?_
  clear hK K
  refine wpAnyR_one 4 rfl (by kernel_rfl) (fun K hK => ?_)
  go_simp
  go_at_call 34
  refine (fit_any ((tn / 65536 : Nat) : Int) tx mn mx tb mb _).mono ?_
  rintro e w4 ⟨rfl, hk4⟩
  have hS4 : w4.cell? ⟨bx + 1, 8, none⟩ = some (.int .u32 mn) ∧ w4.cell? ⟨bx + 1, 8 + 1, none⟩ = some (.int .u32 mx) ∧ w4.cell? ⟨bx + 1, 8 + 2, none⟩ = some (.bool mb) := ⟨keep0 hk4 hS3.1, keep0 hk4 hS3.2.1, keep0 hk4 hS3.2.2⟩
  refine hK.out _ _ (fun _ => hS4) ?_
  clear hK K
  generalize hok0 : (fitLB ((tn / 65536 : Nat) : Int) tx tb mn mx mb) = okb at *
  (first | (refine tkR 5 (v := ?_) rfl hS4 ⟨by rfl, ?_⟩ ?_; rotate_left; intro w h; (try dsimp only at h); first | (go_simp; done) | (go_simp; with_reducible rfl)) | refine skR 5 rfl (fun _ => hS4) (by rfl) ?_); simp only [zq1, zq2, zq3, Act.put, zq4, zq5, zq6]
  refine wpAnyR_done (by kernel_rfl) ?_ _
  have HX3 := Lib.hid ((HX2.out.kept hk3).kept hk4)
  have HK4 := Lib.hid ((HK2.out.then0 hk3).then0 hk4)
  have HOK := Lib.hid hok0
  clear hS hS3 hS4 hk3 hk4 HX2 HK2 HT2 hok0
  have e0 := HX3.out.e.cell 0
  have i2 : w4.cell? ⟨bx + 1, 2, none⟩ = some (.int .u8 k) := HX3.out.i.cell 2
  cases hk : ((2 : Int) == k) with
  | false =>
    have hk1 : ((2 : Int) != k) = true := by unfold bne; rw [hk]; rfl
    have HKK := Lib.hid hk
    clear hk
    go_wp2_with fail
    go_ret
    exact ⟨ret_int (by rw [HKK.out]; simp [fitR]), HK4.out⟩
  | true =>
    have hk1 : ((2 : Int) != k) = false := by unfold bne; rw [hk]; rfl
    have HKK := Lib.hid hk
    clear hk
    cases hok : (okb : Bool) with
    | false =>
      have HO2 := Lib.hid (HOK.out.trans hok)
      subst hok
      go_wp2_with fail
      go_ret
      exact ⟨ret_int (by rw [HKK.out, HO2.out]; rfl), HK4.out⟩
    | true =>
      have HO2 := Lib.hid (HOK.out.trans hok)
      subst hok
      go_wp2_with fail
      go_ret
      exact ⟨ret_int (by rw [HKK.out, HO2.out]; rfl), HK4.out⟩
set_option maxRecDepth 100000 in
set_option maxHeartbeats 3200000 in
theorem fits_mem_out (a : Int) (hown : Own w B 59 1 AnyV ml n F) (hn : n ≤ 65536) (ha : a < 0 ∨ (n : Int) ≤ a) (s1 s2 : ByteArray) (k fi wl wn wx : Int) (wb : Bool) (mn mx : Int) (mb : Bool) (gt : Int) (gm : Bool) (P R : Option Addr) (mp mr cp cr : Nat) (hb : Blk w sb 132 (stCells fl tl ml gl el dl il)) :
    Calls Tryz.prog 10 #[.pointer (some ⟨sb, 0, none⟩), .agg #[.int .u8 2, .int .i64 a], .agg #[.string s1, .string s2, .int .u8 k, .int .u32 fi, .int .u8 wl, .int .u32 wn, .int .u32 wx, .bool wb, .int .u32 mn, .int .u32 mx, .bool mb, .int .u8 gt, .bool gm], .agg #[.slice P mp cp, .slice R mr cr]] w fun e w' => e = .returned (.int .i64 11) ∧ Kept S0 w w' := by
  have hx := fbox_new w 2 a #[.string s1, .string s2, .int .u8 k, .int .u32 fi, .int .u8 wl, .int .u32 wn, .int .u32 wx, .bool wb, .int .u32 mn, .int .u32 mx, .bool mb, .int .u8 gt, .bool gm] #[.slice P mp cp, .slice R mr cr]
  have hka : Kept S0 w (((w.alloc (.cells #[.int .u8 2, .int .i64 a] 25)).alloc (.cells #[.string s1, .string s2, .int .u8 k, .int .u32 fi, .int .u8 wl, .int .u32 wn, .int .u32 wx, .bool wb, .int .u32 mn, .int .u32 mx, .bool mb, .int .u8 gt, .bool gm] 35)).alloc (.cells #[.slice P mp cp, .slice R mr cr] 38)) := (((Kept.refl S0 w).alloc _).alloc _).alloc _
  have hba := hka.blk hb (fun x => x)
  have HO := Lib.hid (hown.kept hka (fun _ _ x => x))
  have HBA := Lib.hid hba
  have HX := Lib.hid hx
  have HK := Lib.hid hka
  have HA := Lib.hid ha
  clear hb hba hx hka hown ha
  go_enter Tryz.func10, Tryz.ntmps10
  go_wp2_with fail
  generalize (((w.alloc (.cells #[.int .u8 2, .int .i64 a] 25)).alloc (.cells #[.string s1, .string s2, .int .u8 k, .int .u32 fi, .int .u8 wl, .int .u32 wn, .int .u32 wx, .bool wb, .int .u32 mn, .int .u32 mx, .bool mb, .int .u8 gt, .bool gm] 35)).alloc (.cells #[.slice P mp cp, .slice R mr cr] 38)) = wa at *
  generalize hbx : w.heap.size = bx at *
  have c0 : wa.cell? ⟨sb, 0, none⟩ = some (.bool true) := HBA.out.cell 0
  refine (off_made _ _ c0).mono ?_
  rintro e w1 ⟨rfl, rfl⟩
  have e0 : wa.cell? ⟨bx, 0, none⟩ = some (.int .u8 2) := HX.out.e.cell 0
  have e1 : wa.cell? ⟨bx, 1, none⟩ = some (.int .i64 a) := HX.out.e.cell 1
  clear c0
  go_wp2_with fail
  refine (getmem_out a HBA.out HO.out hn HA.out).mono ?_
  rintro e w1 ⟨rfl, rfl⟩
  clear e0 e1
  go_wp2_with fail
  have hd := (Kept.refl S0 wa).drew
  have hS : wa.drew.cell? ⟨bx + 1, 8, none⟩ = some (.int .u32 mn) ∧ wa.drew.cell? ⟨bx + 1, 8 + 1, none⟩ = some (.int .u32 mx) ∧ wa.drew.cell? ⟨bx + 1, 8 + 2, none⟩ = some (.bool mb) := ⟨HX.out.i.cell 8, HX.out.i.cell 9, HX.out.i.cell 10⟩
  refine wp_region_R (fun w' => w'.cell? ⟨bx + 1, 8, none⟩ = some (.int .u32 mn) ∧ w'.cell? ⟨bx + 1, 8 + 1, none⟩ = some (.int .u32 mx) ∧ w'.cell? ⟨bx + 1, 8 + 2, none⟩ = some (.bool mb)) [] (by kernel_rfl) ?_
  have HK2 := Lib.hid HK.out.drew
  clear HX HK HO HBA hd
  generalize wa.drew = w2 at *
  (first | (refine tkR 0 (v := ?_) rfl hS ⟨by rfl, ?_⟩ ?_; rotate_left; intro w h; (try dsimp only at h); first | (go_simp; done) | (go_simp; with_reducible rfl)) | refine skR 0 rfl (fun _ => hS) (by rfl) ?_); simp only [zq1, zq2, Act.put, zq4, zq5, zq6]
  (first | (refine tkR 2 (v := ?_) rfl hS ⟨by rfl, ?_⟩ ?_; rotate_left; intro w h; (try dsimp only at h); first | (go_simp; done) | (go_simp; with_reducible rfl)) | refine skR 2 rfl (fun _ => hS) (by rfl) ?_); simp only [zq1, zq2, zq3, Act.put, zq4, zq5, zq6]
  (first | (refine tkR 3 (v := ?_) rfl hS ⟨by rfl, ?_⟩ ?_; rotate_left; intro w h; (try dsimp only at h); first | (go_simp; done) | (go_simp; with_reducible rfl)) | refine skR 3 rfl (fun _ => hS) (by rfl) ?_); simp only [zq1, zq2, zq3, Act.put, zq4, zq5, zq6]
  refine wpAnyR_one 1 rfl (by kernel_rfl) (fun K hK => ?_)
  go_simp
  go_at_call 19
  refine (mtype_nil _).mono ?_
  rintro e w3 ⟨rfl, hk3⟩
  have hS3 : w3.cell? ⟨bx + 1, 8, none⟩ = some (.int .u32 mn) ∧ w3.cell? ⟨bx + 1, 8 + 1, none⟩ = some (.int .u32 mx) ∧ w3.cell? ⟨bx + 1, 8 + 2, none⟩ = some (.bool mb) := ⟨keep0 hk3 hS.1, keep0 hk3 hS.2.1, keep0 hk3 hS.2.2⟩
  refine hK.out _ _ (fun _ => hS3) ?_
  clear hK K
  refine wpAnyR_one 4 rfl (by kernel_rfl) (fun K hK => ?_)
  go_simp
  go_at_call 34
  refine (fit_any 0 0 mn mx false mb _).mono ?_
  rintro e w4 ⟨rfl, hk4⟩
  have hS4 : w4.cell? ⟨bx + 1, 8, none⟩ = some (.int .u32 mn) ∧ w4.cell? ⟨bx + 1, 8 + 1, none⟩ = some (.int .u32 mx) ∧ w4.cell? ⟨bx + 1, 8 + 2, none⟩ = some (.bool mb) := ⟨keep0 hk4 hS3.1, keep0 hk4 hS3.2.1, keep0 hk4 hS3.2.2⟩
  refine hK.out _ _ (fun _ => hS4) ?_
  clear hK K
  (first | (refine tkR 5 (v := ?_) rfl hS4 ⟨by rfl, ?_⟩ ?_; rotate_left; intro w h; (try dsimp only at h); first | (go_simp; done) | (go_simp; with_reducible rfl)) | refine skR 5 rfl (fun _ => hS4) (by rfl) ?_); simp only [zq1, zq2, zq3, Act.put, zq4, zq5, zq6]
  refine wpAnyR_done (by kernel_rfl) ?_ _
  have HK4 := Lib.hid ((HK2.out.then0 hk3).then0 hk4)
  clear hS hS3 hS4 hk3 hk4 HK2
  go_wp2_with fail
  go_ret
  exact ⟨rfl, HK4.out⟩
set_option maxRecDepth 100000 in
set_option maxHeartbeats 3200000 in
theorem fits_other (ki a : Int) (h0 : (ki == 0) = false) (h1 : (ki == 1) = false) (h2 : (ki == 2) = false) (h3 : (ki == 3) = false) (s1 s2 : ByteArray) (k fi wl wn wx : Int) (wb : Bool) (mn mx : Int) (mb : Bool) (gt : Int) (gm : Bool) (P R : Option Addr) (mp mr cp cr : Nat) (hb : Blk w sb 132 (stCells fl tl ml gl el dl il)) :
    Calls Tryz.prog 10 #[.pointer (some ⟨sb, 0, none⟩), .agg #[.int .u8 ki, .int .i64 a], .agg #[.string s1, .string s2, .int .u8 k, .int .u32 fi, .int .u8 wl, .int .u32 wn, .int .u32 wx, .bool wb, .int .u32 mn, .int .u32 mx, .bool mb, .int .u8 gt, .bool gm], .agg #[.slice P mp cp, .slice R mr cr]] w fun e w' => e = .returned (.int .i64 11) ∧ Kept S0 w w' := by
  have hx := fbox_new w ki a #[.string s1, .string s2, .int .u8 k, .int .u32 fi, .int .u8 wl, .int .u32 wn, .int .u32 wx, .bool wb, .int .u32 mn, .int .u32 mx, .bool mb, .int .u8 gt, .bool gm] #[.slice P mp cp, .slice R mr cr]
  have hka : Kept S0 w (((w.alloc (.cells #[.int .u8 ki, .int .i64 a] 25)).alloc (.cells #[.string s1, .string s2, .int .u8 k, .int .u32 fi, .int .u8 wl, .int .u32 wn, .int .u32 wx, .bool wb, .int .u32 mn, .int .u32 mx, .bool mb, .int .u8 gt, .bool gm] 35)).alloc (.cells #[.slice P mp cp, .slice R mr cr] 38)) := (((Kept.refl S0 w).alloc _).alloc _).alloc _
  have hba := hka.blk hb (fun x => x)
  have HBA := Lib.hid hba
  have HX := Lib.hid hx
  have HK := Lib.hid hka
  clear hb hba hx hka
  go_enter Tryz.func10, Tryz.ntmps10
  go_wp2_with fail
  generalize (((w.alloc (.cells #[.int .u8 ki, .int .i64 a] 25)).alloc (.cells #[.string s1, .string s2, .int .u8 k, .int .u32 fi, .int .u8 wl, .int .u32 wn, .int .u32 wx, .bool wb, .int .u32 mn, .int .u32 mx, .bool mb, .int .u8 gt, .bool gm] 35)).alloc (.cells #[.slice P mp cp, .slice R mr cr] 38)) = wa at *
  generalize hbx : w.heap.size = bx at *
  have c0 : wa.cell? ⟨sb, 0, none⟩ = some (.bool true) := HBA.out.cell 0
  refine (off_made _ _ c0).mono ?_
  rintro e w1 ⟨rfl, rfl⟩
  have e0 : wa.cell? ⟨bx, 0, none⟩ = some (.int .u8 ki) := HX.out.e.cell 0
  have e1 : wa.cell? ⟨bx, 1, none⟩ = some (.int .i64 a) := HX.out.e.cell 1
  clear c0
  go_wp2_with fail
  go_ret
  exact ⟨rfl, HK.out⟩
end
end Go.Proofs.YtlnkdnmeikpckaaGreat
