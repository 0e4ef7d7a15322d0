/- What the proofs lean on, part 1 of Ow. No condition. -/
import Derived.Test.YtlnkdnmeikpckaaGreatMSta
import Derived.Test.YtlnkdnmeikpckaaGreatMStb
import Derived.Test.YtlnkdnmeikpckaaGreatMStc
import Derived.Test.YtlnkdnmeikpckaaGreatMStf
import Derived.Test.YtlnkdnmeikpckaaGreatMStg
import Derived.Test.YtlnkdnmeikpckaaGreatMSth
import Derived.WalkKit
import Derived.WalkSpells
import Derived.WalkLawsBesides
import Derived.BigQuiet
import Derived.Deep.QuietTactic
import Derived.Deep.OwnRows
import Derived.Deep.Draws
import Derived.Laws.OwnMore
import Derived.Laws.Rows
import Derived.Lib.Hide
import Derived.Test.YtlnkdnmeikpckaaGreatProg
import Derived.StillTailTactics
import Derived.Laws.BitsAllLaws
namespace Go.Proofs.YtlnkdnmeikpckaaGreat
open Go.RowKit
set_option maxRecDepth 100000
def S2 (g h : Nat) : Nat → Prop := fun k => k = g ∨ k = h
section
variable {S S' : Nat → Prop} {a w w' : World}
theorem Kept.below (h : Kept S a w) {B : Nat} (hB : B ≤ a.heap.size) (hs : ∀ k, S k → B ≤ k) : Below B a w :=
  ⟨h.os, h.tape, h.output, h.size, fun k hk => h.block k (by omega) (fun x => by have := hs k x; omega)⟩
theorem Kept.below0 (h : Kept S0 a w) : Below a.heap.size a w := h.below (Nat.le_refl _) (fun _ x => x.elim)
end
end Go.Proofs.YtlnkdnmeikpckaaGreat
namespace Go.Proofs.YtlnkdnmeikpckaaGreat
open Go.RowKit
set_option maxRecDepth 100000
/-- Do limits fit wanted ones? -/
def fitLB (mn mx : Int) (bd : Bool) (wn wx : Int) (wb : Bool) : Bool := decide (wn ≤ mn) && (!wb || (bd && decide (mx ≤ wx)))
set_option maxHeartbeats 1600000 in
theorem fit_any (mn mx wn wx : Int) (bd wb : Bool) (w : World) : Calls Tryz.prog 34 #[.agg #[.int .u32 mn, .int .u32 mx, .bool bd], .agg #[.int .u32 wn, .int .u32 wx, .bool wb]] w fun e w' => e = .returned (.bool (fitLB mn mx bd wn wx wb)) ∧ Kept S0 w w' := by
  have hB := (Blk.new w 29 #[.int .u32 mn, .int .u32 mx, .bool bd]).alloc (.cells #[.int .u32 wn, .int .u32 wx, .bool wb] 29)
  have hC := Blk.new1 w (.cells #[.int .u32 mn, .int .u32 mx, .bool bd] 29) 29 #[.int .u32 wn, .int .u32 wx, .bool wb]
  have a0 := hB.cell 0
  have a1 := hB.cell 1
  have a2 := hB.cell 2
  have b0 := hC.cell 0
  have b1 := hC.cell 1
  have b2 := hC.cell 2
  clear hB hC
  by_cases h : mn < wn
  · have HB := Lib.hid (show fitLB mn mx bd wn wx wb = false by unfold fitLB; rw [decide_eq_false (by omega)]; rfl)
    go_enter Tryz.func34, Tryz.ntmps34
    go_wp2
    go_ret
    exact ⟨ret_bool (by rw [HB.out]), (by repeat (first | exact Kept.refl _ _ | assumption | refine Kept.drew ?_ | refine Kept.alloc ?_ _ | refine Kept.setCell ?_ (.inr (by first | exact Nat.le_refl _ | (simp; done) | omega | (simp; omega))) _))⟩
  · have h2 : decide (mn < wn) = false := decide_eq_false h
    have HH := Lib.hid (show decide (wn ≤ mn) = true from decide_eq_true (by omega))
    clear h
    cases wb <;> cases bd
    all_goals
      have HB := Lib.hid (HH.out)
      go_enter Tryz.func34, Tryz.ntmps34
      go_wp2
      go_ret
      exact ⟨ret_bool (by unfold fitLB; rw [HH.out]; simp), (by repeat (first | exact Kept.refl _ _ | assumption | refine Kept.drew ?_ | refine Kept.alloc ?_ _ | refine Kept.setCell ?_ (.inr (by first | exact Nat.le_refl _ | (simp; done) | omega | (simp; omega))) _))⟩
set_option maxHeartbeats 1600000 in
theorem fittab_any (el mn mx wl wn wx : Int) (bd wb : Bool) (w : World) : Calls Tryz.prog 33 #[.agg #[.int .u8 el, .int .u32 mn, .int .u32 mx, .bool bd], .agg #[.int .u8 wl, .int .u32 wn, .int .u32 wx, .bool wb]] w fun e w' => e = .returned (.bool ((el == wl) && fitLB mn mx bd wn wx wb)) ∧ Kept S0 w w' := by
  have hB := (Blk.new w 31 #[.int .u8 el, .int .u32 mn, .int .u32 mx, .bool bd]).alloc (.cells #[.int .u8 wl, .int .u32 wn, .int .u32 wx, .bool wb] 31)
  have hC := Blk.new1 w (.cells #[.int .u8 el, .int .u32 mn, .int .u32 mx, .bool bd] 31) 31 #[.int .u8 wl, .int .u32 wn, .int .u32 wx, .bool wb]
  have a0 := hB.cell 0
  have a1 := hB.cell 1
  have a2 := hB.cell 2
  have a3 := hB.cell 3
  have b0 := hC.cell 0
  have b1 := hC.cell 1
  have b2 := hC.cell 2
  have b3 := hC.cell 3
  clear hB hC
  cases he : (el == wl) with
  | true =>
    have HE := Lib.hid he
    go_enter Tryz.func33, Tryz.ntmps33
    go_wp2_with fail
    refine (fit_any mn mx wn wx bd wb _).mono ?_
    rintro e w1 ⟨rfl, hk⟩
    have HK := Lib.hid hk
    clear hk he
    go_wp2_with fail
    go_ret
    exact ⟨ret_bool (by simp), ((by repeat (first | exact Kept.refl _ _ | assumption | refine Kept.drew ?_ | refine Kept.alloc ?_ _ | refine Kept.setCell ?_ (.inr (by first | exact Nat.le_refl _ | (simp; done) | omega | (simp; omega))) _)) : Kept S0 w _).then0 HK.out⟩
  | false =>
    go_enter Tryz.func33, Tryz.ntmps33
    go_wp2_with fail
    go_ret
    exact ⟨ret_bool (by simp), (by repeat (first | exact Kept.refl _ _ | assumption | refine Kept.drew ?_ | refine Kept.alloc ?_ _ | refine Kept.setCell ?_ (.inr (by first | exact Nat.le_refl _ | (simp; done) | omega | (simp; omega))) _))⟩
end Go.Proofs.YtlnkdnmeikpckaaGreat
namespace Go.Proofs.YtlnkdnmeikpckaaGreat.T20
open Go.RowKit
set_option maxRecDepth 100000
section
variable {w w' : World} {tb base n : Nat} {el mn mx : Int} {bd : Bool} {lv : Value} {f : Nat → V3}
theorem TabAt.c2 (h : TabAt w tb base n el mn mx bd lv f) : w.cell? ⟨tb, 2, none⟩ = some (.int .u32 mn) := h.obj.cell 2
end
set_option maxHeartbeats 400000 in
theorem off_nil (w : World) :
    Calls Tryz.prog 44 #[.pointer none] w fun e w' => e = .returned (.bool true) ∧ w = w' := by
  go_enter Tryz.func44, Tryz.ntmps44
  go_wp2
  go_ret
  exact ⟨rfl, rfl⟩
end Go.Proofs.YtlnkdnmeikpckaaGreat.T20
namespace Go.Proofs.YtlnkdnmeikpckaaGreat.M19
open Go.RowKit
set_option maxRecDepth 100000
section
variable {w : World} {pb bb n : Nat} {mn mx : Int} {bd : Bool} {f : Nat → UInt8}
theorem MemAt.c1 (h : MemAt w pb bb n mn mx bd f) : w.cell? ⟨pb, 1, none⟩ = some (.int .u32 mn) := h.obj.cell 1
end
set_option maxHeartbeats 400000 in
theorem off_nil (w : World) :
    Calls Tryz.prog 47 #[.pointer none] w fun e w' => e = .returned (.bool true) ∧ w = w' := by
  go_enter Tryz.func47, Tryz.ntmps47
  go_wp2
  go_ret
  exact ⟨rfl, rfl⟩
end Go.Proofs.YtlnkdnmeikpckaaGreat.M19
namespace Go.Proofs.YtlnkdnmeikpckaaGreat.M19
open Go.RowKit
set_option maxRecDepth 100000
theorem MemAt.kept0 {w w' : World} {pb bb n : Nat} {mn mx : Int} {bd : Bool} {f : Nat → UInt8} (h : MemAt w pb bb n mn mx bd f) (hk : Kept S0 w w') : MemAt w' pb bb n mn mx bd f := h.kept hk (fun x => x) (fun x => x)
end Go.Proofs.YtlnkdnmeikpckaaGreat.M19
namespace Go.Proofs.YtlnkdnmeikpckaaGreat.M19
open Go.RowKit
set_option maxRecDepth 100000
section
variable {w : World} {pb bb n : Nat} {mn mx : Int} {bd : Bool} {f : Nat → UInt8}
set_option maxHeartbeats 1600000 in
theorem type_made (hm : MemAt w pb bb n mn mx bd f) (hN : n ≤ 1048576) :
    Calls Tryz.prog 19 #[.pointer (some ⟨pb, 0, none⟩)] w fun e w' => e = .returned (.agg #[.int .u32 ((n / 65536 : Nat) : Int), .int .u32 mx, .bool bd]) ∧ Kept S0 w w' := by
  have hka : Kept S0 w (w.alloc (.cells #[.int .u32 0, .int .u32 0, .bool false] 29)) := (Kept.refl S0 w).alloc _
  have hm1 := hm.kept0 hka
  have c0 := hm1.c0
  have c1 := hm1.c1
  have c2 := hm1.c2
  have c3 := hm1.c3
  have hkb : Kept S0 w ((w.alloc (.cells #[.int .u32 0, .int .u32 0, .bool false] 29)).alloc (.cells #[.int .u32 mn, .int .u32 mx, .bool bd] 29)) := hka.alloc _
  have HM2 := Lib.hid (hm.kept0 hkb)
  clear hm hm1
  go_enter Tryz.func19, Tryz.ntmps19
  go_wp2_with fail
  refine (off_made _ _ c0).mono ?_
  rintro e w1 ⟨rfl, rfl⟩
  go_wp2_with fail
  have d4 := HM2.out.c4
  have d0 := HM2.out.c0
  refine (pages_made pb bb n _ d0 d4 hN).mono ?_
  rintro e w1 ⟨rfl, rfl⟩
  go_wp2_with fail
  exact bodyPost_ret (v := .agg #[.int .u32 ((n / 65536 : Nat) : Int), .int .u32 mx, .bool bd]) (by simp [results, Tryz.results19, go_sem]) rfl ⟨rfl, ((Kept.refl S0 w).alloc _).alloc _⟩
end
end Go.Proofs.YtlnkdnmeikpckaaGreat.M19
namespace Go.Proofs.YtlnkdnmeikpckaaGreat
open Go.RowKit
set_option maxRecDepth 100000
section
variable {w : World} {sb B n : Nat} {fl tl ml gl el dl il : Value} {F : Nat → Value}
set_option maxRecDepth 100000 in
set_option maxHeartbeats 3200000 in
theorem getglob_in (a : Nat) (gt : Int) (gm : Bool) (t lo hi : Int) (hb : Blk w sb 132 (stCells fl tl ml gl el dl il)) (hown : Own w B 149 5 AnyV gl n F) (hn : n ≤ 65536) (ha : a < n) (f0 : F (a * 5) = .int .u8 gt) (f1 : F (a * 5 + 1) = .bool gm) (f2 : F (a * 5 + 2) = .int .u8 t) (f3 : F (a * 5 + 3) = .int .u64 lo) (f4 : F (a * 5 + 4) = .int .u64 hi) :
    Calls Tryz.prog 20 #[.pointer (some ⟨sb, 0, none⟩), .int .i64 (a : Int)] w fun e w' => e = .returned (.tuple #[.agg #[.int .u8 gt, .bool gm], .agg #[.int .u8 t, .int .u64 lo, .int .u64 hi], .int .i64 0]) ∧ Kept S0 w w' := by
  obtain ⟨g, fc, hfl, _, _⟩ := hown.is_some (by omega)
  subst hfl
  have hka : Kept S0 w ((w.alloc (.cells #[.int .u8 0, .bool false] 33)).alloc (.cells #[.int .u8 0, .int .u64 0, .int .u64 0] 65)) := ((Kept.refl S0 w).alloc _).alloc _
  have hb1 := hka.blk hb (fun x => x)
  have ho1 := hown.kept hka (fun _ _ x => x)
  have c0 : ((w.alloc (.cells #[.int .u8 0, .bool false] 33)).alloc (.cells #[.int .u8 0, .int .u64 0, .int .u64 0] 65)).cell? ⟨sb, 0, none⟩ = some (.bool true) := hb1.cell 0
  have c1 : ((w.alloc (.cells #[.int .u8 0, .bool false] 33)).alloc (.cells #[.int .u8 0, .int .u64 0, .int .u64 0] 65)).cell? ⟨sb, 4, none⟩ = some (.slice (some ⟨g, 0, none⟩) n fc) := hb1.cell 4
  have g0 := (ho1.rowcell (j := a * 5) (by omega)).trans (congrArg some f0)
  have g1 := (ho1.rowcell (j := a * 5 + 1) (by omega)).trans (congrArg some f1)
  have g2 := (ho1.rowcell (j := a * 5 + 2) (by omega)).trans (congrArg some f2)
  have g3 := (ho1.rowcell (j := a * 5 + 3) (by omega)).trans (congrArg some f3)
  have g4 := (ho1.rowcell (j := a * 5 + 4) (by omega)).trans (congrArg some f4)
  have HB0 := Lib.hid ((Blk.new w 33 #[.int .u8 0, .bool false]).alloc (.cells #[.int .u8 0, .int .u64 0, .int .u64 0] 65))
  have HB1 := Lib.hid (Blk.new1 w (.cells #[.int .u8 0, .bool false] 33) 65 #[.int .u8 0, .int .u64 0, .int .u64 0])
  have HG := Lib.hid (show g < w.heap.size from (hown.lt g rfl).2)
  have HK := Lib.hid hka
  clear hb hown hb1 ho1 hka f0 f1 f2 f3 f4
  go_enter Tryz.func20, Tryz.ntmps20
  go_wp2_with fail
  refine (off_made _ _ c0).mono ?_
  rintro e w1 ⟨rfl, rfl⟩
  go_wp2_with fail
  refine (at_GLOB_in a g c1 hn ha).mono ?_
  rintro e w1 ⟨rfl, rfl⟩
  clear c0 c1
  go_wp2_with fail
  generalize (w.alloc (.cells #[.int .u8 0, .bool false] 33)).alloc (.cells #[.int .u8 0, .int .u64 0, .int .u64 0] 65) = w1 at *
  generalize hbx : w.heap.size = bx at *
  have hS : w1.drew.cell? ⟨g, a * 5, none⟩ = some (.int .u8 gt) ∧ w1.drew.cell? ⟨g, a * 5 + 1, none⟩ = some (.bool gm) ∧ w1.drew.cell? ⟨g, a * 5 + 2, none⟩ = some (.int .u8 t) ∧ w1.drew.cell? ⟨g, a * 5 + 2 + 1, none⟩ = some (.int .u64 lo) ∧ w1.drew.cell? ⟨g, a * 5 + 2 + 2, none⟩ = some (.int .u64 hi) := ⟨g0, g1, g2, g3, g4⟩
  refine wp_region_R (fun w' => w'.cell? ⟨g, a * 5, none⟩ = some (.int .u8 gt) ∧ w'.cell? ⟨g, a * 5 + 1, none⟩ = some (.bool gm) ∧ w'.cell? ⟨g, a * 5 + 2, none⟩ = some (.int .u8 t) ∧ w'.cell? ⟨g, a * 5 + 2 + 1, none⟩ = some (.int .u64 lo) ∧ w'.cell? ⟨g, a * 5 + 2 + 2, none⟩ = some (.int .u64 hi)) [] (by kernel_rfl) ?_
  have hB0 := HB0.out.drew
  have hB1 := HB1.out.drew
  have hgx := HG.out
  have HKD := Lib.hid HK.out.drew
  generalize w1.drew = w2 at *
  clear g0 g1 g2 g3 g4 HB0 HB1 HK
  (first | (refine tkR 0 (v := ?_) rfl hS ⟨by rfl, ?_⟩ ?_; rotate_left; intro w h; (try dsimp only at h); first | (go_simp; done) | (go_simp; with_reducible rfl)) | refine skR 0 rfl (fun _ => hS) (by rfl) ?_); simp only [zq1, zq2, Act.put, zq4, zq5, zq6]
  (first | (refine tkR 1 (v := ?_) rfl hS ⟨by rfl, ?_⟩ ?_; rotate_left; intro w h; (try dsimp only at h); first | (go_simp; done) | (go_simp; with_reducible rfl)) | refine skR 1 rfl (fun _ => hS) (by rfl) ?_); simp only [zq1, zq2, zq3, Act.put, zq4, zq5, zq6]
  (first | (refine tkR 2 (v := ?_) rfl hS ⟨by rfl, ?_⟩ ?_; rotate_left; intro w h; (try dsimp only at h); first | (go_simp; done) | (go_simp; with_reducible rfl)) | refine skR 2 rfl (fun _ => hS) (by rfl) ?_); simp only [zq1, zq2, zq3, Act.put, zq4, zq5, zq6]
  (first | (refine tkR 3 (v := ?_) rfl hS ⟨by rfl, ?_⟩ ?_; rotate_left; intro w h; (try dsimp only at h); first | (go_simp; done) | (go_simp; with_reducible rfl)) | refine skR 3 rfl (fun _ => hS) (by rfl) ?_); simp only [zq1, zq2, zq3, Act.put, zq4, zq5, zq6]
  (first | (refine tkR 4 (v := ?_) rfl hS ⟨by rfl, ?_⟩ ?_; rotate_left; intro w h; (try dsimp only at h); first | (go_simp; done) | (go_simp; with_reducible rfl)) | refine skR 4 rfl (fun _ => hS) (by rfl) ?_); simp only [zq1, zq2, zq3, Act.put, zq4, zq5, zq6]
  (first | (refine tkR 5 (v := ?_) rfl hS ⟨by rfl, ?_⟩ ?_; rotate_left; intro w h; (try dsimp only at h); first | (go_simp; done) | (go_simp; with_reducible rfl)) | refine skR 5 rfl (fun _ => hS) (by rfl) ?_); simp only [zq1, zq2, zq3, Act.put, zq4, zq5, zq6]
  (first | (refine tkR 6 (v := ?_) rfl hS ⟨by rfl, ?_⟩ ?_; rotate_left; intro w h; (try dsimp only at h); first | (go_simp; done) | (go_simp; with_reducible rfl)) | refine skR 6 rfl (fun _ => hS) (by rfl) ?_); simp only [zq1, zq2, zq3, Act.put, zq4, zq5, zq6]
  (first | (refine tkR 7 (v := ?_) rfl hS ⟨by rfl, ?_⟩ ?_; rotate_left; intro w h; (try dsimp only at h); first | (go_simp; done) | (go_simp; with_reducible rfl)) | refine skR 7 rfl (fun _ => hS) (by rfl) ?_); simp only [zq1, zq2, zq3, Act.put, zq4, zq5, zq6]
  have q0 := hB0.cell 0
  have q1 := hB0.cell 1
  have q2 := hB0.frozen 0
  have q3 := hB0.frozen 1
  refine wpAnyR_one 8 rfl (by kernel_rfl) (fun K hK8 => ?_)
  go_simp
  have hs3 : Kept (S1 bx) w2 ((w2.setCell ⟨bx, 0, none⟩ (.int .u8 gt)).setCell ⟨bx, 1, none⟩ (.bool gm)) := ((Kept.refl (S1 bx) w2).setCell (p := ⟨bx, 0, none⟩) (.inl rfl) _).setCell (p := ⟨bx, 1, none⟩) (.inl rfl) _
  have hb3 : Blk ((w2.setCell ⟨bx, 0, none⟩ (.int .u8 gt)).setCell ⟨bx, 1, none⟩ (.bool gm)) bx 33 #[.int .u8 gt, .bool gm] := (hB0.set_ 0 (.int .u8 gt)).set_ 1 (.bool gm)
  have hv3 := hs3.blk hB1 (fun e => by have e' : bx + 1 = bx := e; omega)
  have hcell : ∀ j v, w2.cell? ⟨g, j, none⟩ = some v → ((w2.setCell ⟨bx, 0, none⟩ (.int .u8 gt)).setCell ⟨bx, 1, none⟩ (.bool gm)).cell? ⟨g, j, none⟩ = some v := fun j v h => (hs3.cell (p := ⟨g, j, none⟩) (World.block_lt_of_cell? _ _ h) (fun e => by have e' : g = bx := e; omega)).trans h
  refine hK8.out _ _ (fun _ => ⟨hcell _ _ hS.1, hcell _ _ hS.2.1, hcell _ _ hS.2.2.1, hcell _ _ hS.2.2.2.1, hcell _ _ hS.2.2.2.2⟩) ?_
  clear hK8 K
  have hS3 : ((w2.setCell ⟨bx, 0, none⟩ (.int .u8 gt)).setCell ⟨bx, 1, none⟩ (.bool gm)).cell? ⟨g, a * 5, none⟩ = some (.int .u8 gt) ∧ ((w2.setCell ⟨bx, 0, none⟩ (.int .u8 gt)).setCell ⟨bx, 1, none⟩ (.bool gm)).cell? ⟨g, a * 5 + 1, none⟩ = some (.bool gm) ∧ ((w2.setCell ⟨bx, 0, none⟩ (.int .u8 gt)).setCell ⟨bx, 1, none⟩ (.bool gm)).cell? ⟨g, a * 5 + 2, none⟩ = some (.int .u8 t) ∧ ((w2.setCell ⟨bx, 0, none⟩ (.int .u8 gt)).setCell ⟨bx, 1, none⟩ (.bool gm)).cell? ⟨g, a * 5 + 2 + 1, none⟩ = some (.int .u64 lo) ∧ ((w2.setCell ⟨bx, 0, none⟩ (.int .u8 gt)).setCell ⟨bx, 1, none⟩ (.bool gm)).cell? ⟨g, a * 5 + 2 + 2, none⟩ = some (.int .u64 hi) := ⟨hcell _ _ hS.1, hcell _ _ hS.2.1, hcell _ _ hS.2.2.1, hcell _ _ hS.2.2.2.1, hcell _ _ hS.2.2.2.2⟩
  have HK3 := Lib.hid (HKD.out.trans_ hs3 (fun i e => .inr (by have e' : i = bx := e; omega)))
  clear hcell hs3 hS q0 q1 q2 q3 hB0 hB1 HKD
  generalize (w2.setCell ⟨bx, 0, none⟩ (.int .u8 gt)).setCell ⟨bx, 1, none⟩ (.bool gm) = w3 at *
  have q0 := hv3.cell 0
  have q1 := hv3.cell 1
  have q2 := hv3.cell 2
  have r0 := hv3.frozen 0
  have r1 := hv3.frozen 1
  have r2 := hv3.frozen 2
  refine wpAnyR_one 9 rfl (by kernel_rfl) (fun K hK9 => ?_)
  go_simp
  have hs4 : Kept (S1 (bx + 1)) w3 (((w3.setCell ⟨bx + 1, 0, none⟩ (.int .u8 t)).setCell ⟨bx + 1, 1, none⟩ (.int .u64 lo)).setCell ⟨bx + 1, 2, none⟩ (.int .u64 hi)) := (((Kept.refl (S1 (bx + 1)) w3).setCell (p := ⟨bx + 1, 0, none⟩) (.inl rfl) _).setCell (p := ⟨bx + 1, 1, none⟩) (.inl rfl) _).setCell (p := ⟨bx + 1, 2, none⟩) (.inl rfl) _
  have hv4 : Blk (((w3.setCell ⟨bx + 1, 0, none⟩ (.int .u8 t)).setCell ⟨bx + 1, 1, none⟩ (.int .u64 lo)).setCell ⟨bx + 1, 2, none⟩ (.int .u64 hi)) (bx + 1) 65 #[.int .u8 t, .int .u64 lo, .int .u64 hi] := ((hv3.set_ 0 (.int .u8 t)).set_ 1 (.int .u64 lo)).set_ 2 (.int .u64 hi)
  have hb4 := hs4.blk hb3 (fun e => by have e' : bx = bx + 1 := e; omega)
  have hcell : ∀ j v, w3.cell? ⟨g, j, none⟩ = some v → (((w3.setCell ⟨bx + 1, 0, none⟩ (.int .u8 t)).setCell ⟨bx + 1, 1, none⟩ (.int .u64 lo)).setCell ⟨bx + 1, 2, none⟩ (.int .u64 hi)).cell? ⟨g, j, none⟩ = some v := fun j v h => (hs4.cell (p := ⟨g, j, none⟩) (World.block_lt_of_cell? _ _ h) (fun e => by have e' : g = bx + 1 := e; omega)).trans h
  have HK4 := Lib.hid (HK3.out.trans_ hs4 (fun i e => .inr (by have e' : i = bx + 1 := e; omega)))
  have hS4 : (((w3.setCell ⟨bx + 1, 0, none⟩ (.int .u8 t)).setCell ⟨bx + 1, 1, none⟩ (.int .u64 lo)).setCell ⟨bx + 1, 2, none⟩ (.int .u64 hi)).cell? ⟨g, a * 5, none⟩ = some (.int .u8 gt) ∧ (((w3.setCell ⟨bx + 1, 0, none⟩ (.int .u8 t)).setCell ⟨bx + 1, 1, none⟩ (.int .u64 lo)).setCell ⟨bx + 1, 2, none⟩ (.int .u64 hi)).cell? ⟨g, a * 5 + 1, none⟩ = some (.bool gm) ∧ (((w3.setCell ⟨bx + 1, 0, none⟩ (.int .u8 t)).setCell ⟨bx + 1, 1, none⟩ (.int .u64 lo)).setCell ⟨bx + 1, 2, none⟩ (.int .u64 hi)).cell? ⟨g, a * 5 + 2, none⟩ = some (.int .u8 t) ∧ (((w3.setCell ⟨bx + 1, 0, none⟩ (.int .u8 t)).setCell ⟨bx + 1, 1, none⟩ (.int .u64 lo)).setCell ⟨bx + 1, 2, none⟩ (.int .u64 hi)).cell? ⟨g, a * 5 + 2 + 1, none⟩ = some (.int .u64 lo) ∧ (((w3.setCell ⟨bx + 1, 0, none⟩ (.int .u8 t)).setCell ⟨bx + 1, 1, none⟩ (.int .u64 lo)).setCell ⟨bx + 1, 2, none⟩ (.int .u64 hi)).cell? ⟨g, a * 5 + 2 + 2, none⟩ = some (.int .u64 hi) := ⟨hcell _ _ hS3.1, hcell _ _ hS3.2.1, hcell _ _ hS3.2.2.1, hcell _ _ hS3.2.2.2.1, hcell _ _ hS3.2.2.2.2⟩
  refine hK9.out _ _ (fun _ => ⟨hcell _ _ hS3.1, hcell _ _ hS3.2.1, hcell _ _ hS3.2.2.1, hcell _ _ hS3.2.2.2.1, hcell _ _ hS3.2.2.2.2⟩) ?_
  clear hK9 K hS3 hcell hs4 q0 q1 q2 r0 r1 r2 hv3 hb3 HK3
  generalize ((w3.setCell ⟨bx + 1, 0, none⟩ (.int .u8 t)).setCell ⟨bx + 1, 1, none⟩ (.int .u64 lo)).setCell ⟨bx + 1, 2, none⟩ (.int .u64 hi) = w4 at *
  refine wpAnyR_one 10 rfl (by kernel_rfl) (fun K hK10 => ?_)
  go_simp
  refine hK10.out _ _ (fun _ => hS4) ?_
  clear hK10 K hS4
  refine wpAnyR_done (by kernel_rfl) ?_ _
  have u0 := hb4.cell 0
  have u1 := hb4.cell 1
  have u2 := hv4.cell 0
  have u3 := hv4.cell 1
  have u4 := hv4.cell 2
  go_wp2_with fail
  exact bodyPost_ret (v := .tuple #[.agg #[.int .u8 gt, .bool gm], .agg #[.int .u8 t, .int .u64 lo, .int .u64 hi], .int .i64 0]) (by simp [results, Tryz.results20, go_sem, u0, u1, u2, u3, u4]) rfl ⟨rfl, HK4.out⟩
end
end Go.Proofs.YtlnkdnmeikpckaaGreat
namespace Go.Proofs.YtlnkdnmeikpckaaGreat
open Go.RowKit
set_option maxRecDepth 100000
section
variable {w : World} {sb B n : Nat} {fl tl ml gl el dl il : Value} {F : Nat → Value}
set_option maxRecDepth 100000 in
set_option maxHeartbeats 1600000 in
theorem getglob_out (a : Int) (hb : Blk w sb 132 (stCells fl tl ml gl el dl il)) (hown : Own w B 149 5 AnyV gl n F) (hn : n ≤ 65536) (ha : a < 0 ∨ (n : Int) ≤ a) :
    Calls Tryz.prog 20 #[.pointer (some ⟨sb, 0, none⟩), .int .i64 a] w fun e w' => e = .returned (.tuple #[.agg #[.int .u8 0, .bool false], .agg #[.int .u8 0, .int .u64 0, .int .u64 0], .int .i64 11]) ∧ Kept S0 w w' := by
  obtain ⟨lA, lc, hlv, _, _, _⟩ := hown.out
  subst hlv
  have hka : Kept S0 w ((w.alloc (.cells #[.int .u8 0, .bool false] 33)).alloc (.cells #[.int .u8 0, .int .u64 0, .int .u64 0] 65)) := ((Kept.refl S0 w).alloc _).alloc _
  have hb1 := hka.blk hb (fun x => x)
  have c0 : ((w.alloc (.cells #[.int .u8 0, .bool false] 33)).alloc (.cells #[.int .u8 0, .int .u64 0, .int .u64 0] 65)).cell? ⟨sb, 0, none⟩ = some (.bool true) := hb1.cell 0
  have c1 : ((w.alloc (.cells #[.int .u8 0, .bool false] 33)).alloc (.cells #[.int .u8 0, .int .u64 0, .int .u64 0] 65)).cell? ⟨sb, 4, none⟩ = some (.slice lA n lc) := hb1.cell 4
  have hB0 := (Blk.new w 33 #[.int .u8 0, .bool false]).alloc (.cells #[.int .u8 0, .int .u64 0, .int .u64 0] 65)
  have hB1 := Blk.new1 w (.cells #[.int .u8 0, .bool false] 33) 65 #[.int .u8 0, .int .u64 0, .int .u64 0]
  generalize hbx : w.heap.size = bx at *
  generalize hwa : ((w.alloc (.cells #[.int .u8 0, .bool false] 33)).alloc (.cells #[.int .u8 0, .int .u64 0, .int .u64 0] 65)) = wa at *
  have hk4 := (((((Kept.refl S0 w).of0 (S2 bx (bx + 1))).trans_ (hka.of0 (S2 bx (bx + 1))) (fun _ h => .inl h)))).trans_ ((((((Kept.refl (S2 bx (bx + 1)) wa).setCell (p := ⟨bx, 0, none⟩) (.inl (.inl rfl)) (.int .u8 0)).setCell (p := ⟨bx, 1, none⟩) (.inl (.inl rfl)) (.bool false)).setCell (p := ⟨bx + 1, 0, none⟩) (.inl (.inr rfl)) (.int .u8 0)).setCell (p := ⟨bx + 1, 1, none⟩) (.inl (.inr rfl)) (.int .u64 0)).setCell (p := ⟨bx + 1, 2, none⟩) (.inl (.inr rfl)) (.int .u64 0)) (fun _ h => .inl h)
  have HK := Lib.hid (hka.trans_ ((((((Kept.refl (S2 bx (bx + 1)) wa).setCell (p := ⟨bx, 0, none⟩) (.inl (.inl rfl)) (.int .u8 0)).setCell (p := ⟨bx, 1, none⟩) (.inl (.inl rfl)) (.bool false)).setCell (p := ⟨bx + 1, 0, none⟩) (.inl (.inr rfl)) (.int .u8 0)).setCell (p := ⟨bx + 1, 1, none⟩) (.inl (.inr rfl)) (.int .u64 0)).setCell (p := ⟨bx + 1, 2, none⟩) (.inl (.inr rfl)) (.int .u64 0)) (fun i h => .inr (by rcases h with h | h <;> omega)))
  have hb4 : Blk (((((wa.setCell ⟨bx, 0, none⟩ (.int .u8 0)).setCell ⟨bx, 1, none⟩ (.bool false)).setCell ⟨bx + 1, 0, none⟩ (.int .u8 0)).setCell ⟨bx + 1, 1, none⟩ (.int .u64 0)).setCell ⟨bx + 1, 2, none⟩ (.int .u64 0)) bx 33 #[.int .u8 0, .bool false] :=
    ((((hB0.set_ 0 (.int .u8 0)).set_ 1 (.bool false)).far (p := ⟨bx + 1, 0, none⟩) (by simp) _).far (p := ⟨bx + 1, 1, none⟩) (by simp) _).far (p := ⟨bx + 1, 2, none⟩) (by simp) _
  have hv4 : Blk (((((wa.setCell ⟨bx, 0, none⟩ (.int .u8 0)).setCell ⟨bx, 1, none⟩ (.bool false)).setCell ⟨bx + 1, 0, none⟩ (.int .u8 0)).setCell ⟨bx + 1, 1, none⟩ (.int .u64 0)).setCell ⟨bx + 1, 2, none⟩ (.int .u64 0)) (bx + 1) 65 #[.int .u8 0, .int .u64 0, .int .u64 0] :=
    ((((hB1.far (p := ⟨bx, 0, none⟩) (by simp) _).far (p := ⟨bx, 1, none⟩) (by simp) _).set_ 0 (.int .u8 0)).set_ 1 (.int .u64 0)).set_ 2 (.int .u64 0)
  have u0 := hb4.cell 0
  have u1 := hb4.cell 1
  have u2 := hv4.cell 0
  have u3 := hv4.cell 1
  have u4 := hv4.cell 2
  have q0 := hB0.cell 0
  have q1 := hB0.cell 1
  have q2 := hB0.frozen 0
  have q3 := hB0.frozen 1
  have r0 := hB1.cell 0
  have r1 := hB1.cell 1
  have r2 := hB1.cell 2
  have r3 := hB1.frozen 0
  have r4 := hB1.frozen 1
  have r5 := hB1.frozen 2
  clear hb hown hb1 hka hk4 hb4 hv4 hB0 hB1
  go_enter Tryz.func20, Tryz.ntmps20
  go_wp2_with fail
  refine (off_made _ _ c0).mono ?_
  rintro e w1 ⟨rfl, rfl⟩
  go_wp2_with fail
  refine (at_GLOB_out a lA c1 hn ha).mono ?_
  rintro e w1 ⟨rfl, rfl⟩
  clear c0 c1 ha
  go_wp2_with fail
  exact bodyPost_ret (v := .tuple #[.agg #[.int .u8 0, .bool false], .agg #[.int .u8 0, .int .u64 0, .int .u64 0], .int .i64 11]) (by simp [results, Tryz.results20, go_sem, u0, u1, u2, u3, u4]) rfl ⟨rfl, HK.out⟩
end
end Go.Proofs.YtlnkdnmeikpckaaGreat
namespace Go.Proofs.YtlnkdnmeikpckaaGreat.T20
open Go.RowKit
set_option maxRecDepth 100000
section
variable {w : World} {tb base N : Nat} {el mn mx : Int} {bd : Bool} {lv : Value} {f : Nat → V3}
set_option maxHeartbeats 1600000 in
theorem type_made (hm : TabAt w tb base N el mn mx bd lv f) (hN : N ≤ 16384) :
    Calls Tryz.prog 17 #[.pointer (some ⟨tb, 0, none⟩)] w fun e w' => e = .returned (.agg #[.int .u8 el, .int .u32 (N : Int), .int .u32 mx, .bool bd]) ∧ Kept S0 w w' := by
  obtain ⟨A, c, hlv, _, _, _⟩ := hm.own.out
  have hka : Kept S0 w (w.alloc (.cells #[.int .u8 0, .int .u32 0, .int .u32 0, .bool false] 31)) := (Kept.refl S0 w).alloc _
  have hm1 := hm.kept0 hka
  have c0 := hm1.c0
  have c1 := hm1.c1
  have c2 := hm1.c2
  have c3 := hm1.c3
  have c4 := hm1.c4
  have hkb : Kept S0 w ((w.alloc (.cells #[.int .u8 0, .int .u32 0, .int .u32 0, .bool false] 31)).alloc (.cells #[.int .u8 el, .int .u32 mn, .int .u32 mx, .bool bd] 31)) := hka.alloc _
  have HM2 := Lib.hid (hm.kept0 hkb)
  have HL := Lib.hid hlv
  clear hm hm1 hlv
  go_enter Tryz.func17, Tryz.ntmps17
  go_wp2_with fail
  refine (off_made _ _ c0).mono ?_
  rintro e w1 ⟨rfl, rfl⟩
  go_wp2_with fail
  have d5 := HM2.out.c5
  rw [HL.out] at d5
  have d0 := HM2.out.c0
  refine (size_made tb _ A N c d0 d5 hN).mono ?_
  rintro e w1 ⟨rfl, rfl⟩
  go_wp2_with fail
  have hB := (Blk.new w 31 #[.int .u8 el, .int .u32 (N : Int), .int .u32 mx, .bool bd]).alloc (.cells #[.int .u8 el, .int .u32 (N : Int), .int .u32 mx, .bool bd] 31)
  have r0 := hB.cell 0
  have r1 := hB.cell 1
  have r2 := hB.cell 2
  have r3 := hB.cell 3
  exact bodyPost_ret (v := .agg #[.int .u8 el, .int .u32 (N : Int), .int .u32 mx, .bool bd]) (by simp [results, Tryz.results17, go_sem, r0, r1, r2, r3]) rfl ⟨rfl, ((Kept.refl S0 w).alloc _).alloc _⟩
end
end Go.Proofs.YtlnkdnmeikpckaaGreat.T20
namespace Go.Proofs.YtlnkdnmeikpckaaGreat
open Go.RowKit
set_option maxRecDepth 100000
/-- What Fits answers of what is there. -/
def fitR (same ok : Bool) : Int := if same && ok then 0 else 10
set_option maxHeartbeats 800000 in
theorem ttype_nil (w : World) : Calls Tryz.prog 17 #[.pointer none] w fun e w' => e = .returned (.agg #[.int .u8 0, .int .u32 0, .int .u32 0, .bool false]) ∧ Kept S0 w w' := by
  go_enter Tryz.func17, Tryz.ntmps17
  go_wp2_with fail
  refine (T20.off_nil _).mono ?_
  rintro e w1 ⟨rfl, rfl⟩
  go_wp2_with fail
  have hB := Blk.new w 31 #[.int .u8 0, .int .u32 0, .int .u32 0, .bool false]
  have r0 := hB.cell 0
  have r1 := hB.cell 1
  have r2 := hB.cell 2
  have r3 := hB.cell 3
  exact bodyPost_ret (v := .agg #[.int .u8 0, .int .u32 0, .int .u32 0, .bool false]) (by simp [results, Tryz.results17, go_sem, r0, r1, r2, r3]) rfl ⟨rfl, (Kept.refl S0 w).alloc _⟩
set_option maxHeartbeats 800000 in
theorem mtype_nil (w : World) : Calls Tryz.prog 19 #[.pointer none] w fun e w' => e = .returned (.agg #[.int .u32 0, .int .u32 0, .bool false]) ∧ Kept S0 w w' := by
  go_enter Tryz.func19, Tryz.ntmps19
  go_wp2_with fail
  refine (M19.off_nil _).mono ?_
  rintro e w1 ⟨rfl, rfl⟩
  go_wp2_with fail
  have hB := Blk.new w 29 #[.int .u32 0, .int .u32 0, .bool false]
  have r0 := hB.cell 0
  have r1 := hB.cell 1
  have r2 := hB.cell 2
  exact bodyPost_ret (v := .agg #[.int .u32 0, .int .u32 0, .bool false]) (by simp [results, Tryz.results19, go_sem, r0, r1, r2]) rfl ⟨rfl, (Kept.refl S0 w).alloc _⟩
/-- The boxes of what Fits was handed. -/
structure FBox (w : World) (bx : Nat) (ki a : Int) (im : Array Value) (ft : Array Value) : Prop where
  e : Blk w bx 25 #[.int .u8 ki, .int .i64 a]
  i : Blk w (bx + 1) 35 im
  t : Blk w (bx + 2) 38 ft
theorem FBox.kept {w w' : World} {bx : Nat} {ki a : Int} {im ft : Array Value} (h : FBox w bx ki a im ft) (hk : Kept S0 w w') : FBox w' bx ki a im ft := ⟨hk.blk h.e (fun x => x), hk.blk h.i (fun x => x), hk.blk h.t (fun x => x)⟩
theorem fbox_new (w : World) (ki a : Int) (im ft : Array Value) : FBox (((w.alloc (.cells #[.int .u8 ki, .int .i64 a] 25)).alloc (.cells im 35)).alloc (.cells ft 38)) w.heap.size ki a im ft :=
  ⟨((Blk.new w _ _).alloc _).alloc _, (Blk.new1 w _ _ _).alloc _, by
    have h := Blk.new1 (w.alloc (.cells #[.int .u8 ki, .int .i64 a] 25)) (.cells im 35) 38 ft
    simpa using h⟩
section
variable {w : World} {sb B n : Nat} {fl tl ml gl el dl il : Value} {F : Nat → Value}
set_option maxRecDepth 100000 in
set_option maxHeartbeats 3200000 in
theorem fits_table_in (a tp tbase tn : Nat) (tel tmn tx : Int) (tb : Bool) (tlv : Value) (tf : Nat → V3) (hown : Own w B 55 1 AnyV tl n F) (hn : n ≤ 65536) (ha : a < n) (hF : F a = .pointer (some ⟨tp, 0, none⟩)) (ht : T20.TabAt w tp tbase tn tel tmn tx tb tlv tf) (hN : tn ≤ 16384) (s1 s2 : ByteArray) (k fi wl wn wx : Int) (wb : Bool) (mn mx : Int) (mb : Bool) (gt : Int) (gm : Bool) (P R : Option Addr) (mp mr cp cr : Nat) (hb : Blk w sb 132 (stCells fl tl ml gl el dl il)) :
    Calls Tryz.prog 10 #[.pointer (some ⟨sb, 0, none⟩), .agg #[.int .u8 1, .int .i64 (a : Int)], .agg #[.string s1, .string s2, .int .u8 k, .int .u32 fi, .int .u8 wl, .int .u32 wn, .int .u32 wx, .bool wb, .int .u32 mn, .int .u32 mx, .bool mb, .int .u8 gt, .bool gm], .agg #[.slice P mp cp, .slice R mr cr]] w fun e w' => e = .returned (.int .i64 (fitR ((1 : Int) == k) ((tel == wl) && fitLB tn tx tb wn wx wb))) ∧ Kept S0 w w' := by
  have hx := fbox_new w 1 (a : Int) #[.string s1, .string s2, .int .u8 k, .int .u32 fi, .int .u8 wl, .int .u32 wn, .int .u32 wx, .bool wb, .int .u32 mn, .int .u32 mx, .bool mb, .int .u8 gt, .bool gm] #[.slice P mp cp, .slice R mr cr]
  have hka : Kept S0 w (((w.alloc (.cells #[.int .u8 1, .int .i64 (a : Int)] 25)).alloc (.cells #[.string s1, .string s2, .int .u8 k, .int .u32 fi, .int .u8 wl, .int .u32 wn, .int .u32 wx, .bool wb, .int .u32 mn, .int .u32 mx, .bool mb, .int .u8 gt, .bool gm] 35)).alloc (.cells #[.slice P mp cp, .slice R mr cr] 38)) := (((Kept.refl S0 w).alloc _).alloc _).alloc _
  have hba := hka.blk hb (fun x => x)
  have HO := Lib.hid (hown.kept hka (fun _ _ x => x))
  have HT := Lib.hid (ht.kept0 hka)
  have HBA := Lib.hid hba
  have HX := Lib.hid hx
  have HK := Lib.hid hka
  clear hb hba hx hka hown ht
  go_enter Tryz.func10, Tryz.ntmps10
  go_wp2_with fail
  generalize (((w.alloc (.cells #[.int .u8 1, .int .i64 (a : Int)] 25)).alloc (.cells #[.string s1, .string s2, .int .u8 k, .int .u32 fi, .int .u8 wl, .int .u32 wn, .int .u32 wx, .bool wb, .int .u32 mn, .int .u32 mx, .bool mb, .int .u8 gt, .bool gm] 35)).alloc (.cells #[.slice P mp cp, .slice R mr cr] 38)) = wa at *
  generalize hbx : w.heap.size = bx at *
  have c0 : wa.cell? ⟨sb, 0, none⟩ = some (.bool true) := HBA.out.cell 0
  refine (off_made _ _ c0).mono ?_
  rintro e w1 ⟨rfl, rfl⟩
  have e0 : wa.cell? ⟨bx, 0, none⟩ = some (.int .u8 1) := HX.out.e.cell 0
  have e1 : wa.cell? ⟨bx, 1, none⟩ = some (.int .i64 (a : Int)) := HX.out.e.cell 1
  clear c0
  go_wp2_with fail
  refine (gettable_in a (some ⟨tp, 0, none⟩) HBA.out HO.out hn ha hF).mono ?_
  rintro e w1 ⟨rfl, rfl⟩
  clear e0 e1
  go_wp2_with fail
  have hd := (Kept.refl S0 wa).drew
  have hS : wa.drew.cell? ⟨bx + 1, 4, none⟩ = some (.int .u8 wl) ∧ wa.drew.cell? ⟨bx + 1, 4 + 1, none⟩ = some (.int .u32 wn) ∧ wa.drew.cell? ⟨bx + 1, 4 + 2, none⟩ = some (.int .u32 wx) ∧ wa.drew.cell? ⟨bx + 1, 4 + 3, none⟩ = some (.bool wb) := ⟨HX.out.i.cell 4, HX.out.i.cell 5, HX.out.i.cell 6, HX.out.i.cell 7⟩
  refine wp_region_R (fun w' => w'.cell? ⟨bx + 1, 4, none⟩ = some (.int .u8 wl) ∧ w'.cell? ⟨bx + 1, 4 + 1, none⟩ = some (.int .u32 wn) ∧ w'.cell? ⟨bx + 1, 4 + 2, none⟩ = some (.int .u32 wx) ∧ w'.cell? ⟨bx + 1, 4 + 3, none⟩ = some (.bool wb)) [] (by kernel_rfl) ?_
  have HT2 := Lib.hid (HT.out.kept0 hd)
  have HX2 := Lib.hid (HX.out.kept hd)
  have HK2 := Lib.hid HK.out.drew
  clear HT HX HK HO HBA hd
  generalize wa.drew = w2 at *
  (first | (refine tkR 0 (v := ?_) rfl hS ⟨by rfl, ?_⟩ ?_; rotate_left; intro w h; (try dsimp only at h); first | (go_simp; done) | (go_simp; with_reducible rfl)) | refine skR 0 rfl (fun _ => hS) (by rfl) ?_); simp only [zq1, zq2, Act.put, zq4, zq5, zq6]
  (first | (refine tkR 2 (v := ?_) rfl hS ⟨by rfl, ?_⟩ ?_; rotate_left; intro w h; (try dsimp only at h); first | (go_simp; done) | (go_simp; with_reducible rfl)) | refine skR 2 rfl (fun _ => hS) (by rfl) ?_); simp only [zq1, zq2, zq3, Act.put, zq4, zq5, zq6]
  (first | (refine tkR 3 (v := ?_) rfl hS ⟨by rfl, ?_⟩ ?_; rotate_left; intro w h; (try dsimp only at h); first | (go_simp; done) | (go_simp; with_reducible rfl)) | refine skR 3 rfl (fun _ => hS) (by rfl) ?_); simp only [zq1, zq2, zq3, Act.put, zq4, zq5, zq6]
  refine wpAnyR_one 1 rfl (by kernel_rfl) (fun K hK => ?_)
  go_simp
  go_at_call 17
  refine (T20.type_made HT2.out hN).mono ?_
  rintro e w3 ⟨rfl, hk3⟩
  have hS3 : w3.cell? ⟨bx + 1, 4, none⟩ = some (.int .u8 wl) ∧ w3.cell? ⟨bx + 1, 4 + 1, none⟩ = some (.int .u32 wn) ∧ w3.cell? ⟨bx + 1, 4 + 2, none⟩ = some (.int .u32 wx) ∧ w3.cell? ⟨bx + 1, 4 + 3, none⟩ = some (.bool wb) := ⟨keep0 hk3 hS.1, keep0 hk3 hS.2.1, keep0 hk3 hS.2.2.1, keep0 hk3 hS.2.2.2⟩
  refine hK.out _ _ (fun _ => hS3) ?_
  clear hK K
  refine wpAnyR_one 4 rfl (by kernel_rfl) (fun K hK => ?_)
  go_simp
  go_at_call 33
  refine (fittab_any tel (tn : Int) tx wl wn wx tb wb _).mono ?_
  rintro e w4 ⟨rfl, hk4⟩
  have hS4 : w4.cell? ⟨bx + 1, 4, none⟩ = some (.int .u8 wl) ∧ w4.cell? ⟨bx + 1, 4 + 1, none⟩ = some (.int .u32 wn) ∧ w4.cell? ⟨bx + 1, 4 + 2, none⟩ = some (.int .u32 wx) ∧ w4.cell? ⟨bx + 1, 4 + 3, none⟩ = some (.bool wb) := ⟨keep0 hk4 hS3.1, keep0 hk4 hS3.2.1, keep0 hk4 hS3.2.2.1, keep0 hk4 hS3.2.2.2⟩
  refine hK.out _ _ (fun _ => hS4) ?_
  clear hK K
  generalize hok0 : ((tel == wl) && fitLB tn tx tb wn wx wb) = okb at *
  (first | (refine tkR 5 (v := ?_) rfl hS4 ⟨by rfl, ?_⟩ ?_; rotate_left; intro w h; (try dsimp only at h); first | (go_simp; done) | (go_simp; with_reducible rfl)) | refine skR 5 rfl (fun _ => hS4) (by rfl) ?_); simp only [zq1, zq2, zq3, Act.put, zq4, zq5, zq6]
  refine wpAnyR_done (by kernel_rfl) ?_ _
  have HX3 := Lib.hid ((HX2.out.kept hk3).kept hk4)
  have HK4 := Lib.hid ((HK2.out.then0 hk3).then0 hk4)
  have HOK := Lib.hid hok0
  clear hS hS3 hS4 hk3 hk4 HX2 HK2 HT2 hok0
  have e0 := HX3.out.e.cell 0
  have i2 : w4.cell? ⟨bx + 1, 2, none⟩ = some (.int .u8 k) := HX3.out.i.cell 2
  cases hk : ((1 : Int) == k) with
  | false =>
    have hk1 : ((1 : Int) != k) = true := by unfold bne; rw [hk]; rfl
    have HKK := Lib.hid hk
    clear hk
    go_wp2_with fail
    go_ret
    exact ⟨ret_int (by rw [HKK.out]; simp [fitR]), HK4.out⟩
  | true =>
    have hk1 : ((1 : Int) != k) = false := by unfold bne; rw [hk]; rfl
    have HKK := Lib.hid hk
    clear hk
    cases hok : (okb : Bool) with
    | false =>
      have HO2 := Lib.hid (HOK.out.trans hok)
      subst hok
      go_wp2_with fail
      go_ret
      exact ⟨ret_int (by rw [HKK.out, HO2.out]; rfl), HK4.out⟩
    | true =>
      have HO2 := Lib.hid (HOK.out.trans hok)
      subst hok
      go_wp2_with fail
      go_ret
      exact ⟨ret_int (by rw [HKK.out, HO2.out]; rfl), HK4.out⟩
set_option maxRecDepth 100000 in
set_option maxHeartbeats 3200000 in
theorem fits_table_out (a : Int) (hown : Own w B 55 1 AnyV tl n F) (hn : n ≤ 65536) (ha : a < 0 ∨ (n : Int) ≤ a) (s1 s2 : ByteArray) (k fi wl wn wx : Int) (wb : Bool) (mn mx : Int) (mb : Bool) (gt : Int) (gm : Bool) (P R : Option Addr) (mp mr cp cr : Nat) (hb : Blk w sb 132 (stCells fl tl ml gl el dl il)) :
    Calls Tryz.prog 10 #[.pointer (some ⟨sb, 0, none⟩), .agg #[.int .u8 1, .int .i64 a], .agg #[.string s1, .string s2, .int .u8 k, .int .u32 fi, .int .u8 wl, .int .u32 wn, .int .u32 wx, .bool wb, .int .u32 mn, .int .u32 mx, .bool mb, .int .u8 gt, .bool gm], .agg #[.slice P mp cp, .slice R mr cr]] w fun e w' => e = .returned (.int .i64 11) ∧ Kept S0 w w' := by
  have hx := fbox_new w 1 a #[.string s1, .string s2, .int .u8 k, .int .u32 fi, .int .u8 wl, .int .u32 wn, .int .u32 wx, .bool wb, .int .u32 mn, .int .u32 mx, .bool mb, .int .u8 gt, .bool gm] #[.slice P mp cp, .slice R mr cr]
  have hka : Kept S0 w (((w.alloc (.cells #[.int .u8 1, .int .i64 a] 25)).alloc (.cells #[.string s1, .string s2, .int .u8 k, .int .u32 fi, .int .u8 wl, .int .u32 wn, .int .u32 wx, .bool wb, .int .u32 mn, .int .u32 mx, .bool mb, .int .u8 gt, .bool gm] 35)).alloc (.cells #[.slice P mp cp, .slice R mr cr] 38)) := (((Kept.refl S0 w).alloc _).alloc _).alloc _
  have hba := hka.blk hb (fun x => x)
  have HO := Lib.hid (hown.kept hka (fun _ _ x => x))
  have HBA := Lib.hid hba
  have HX := Lib.hid hx
  have HK := Lib.hid hka
  have HA := Lib.hid ha
  clear hb hba hx hka hown ha
  go_enter Tryz.func10, Tryz.ntmps10
  go_wp2_with fail
  generalize (((w.alloc (.cells #[.int .u8 1, .int .i64 a] 25)).alloc (.cells #[.string s1, .string s2, .int .u8 k, .int .u32 fi, .int .u8 wl, .int .u32 wn, .int .u32 wx, .bool wb, .int .u32 mn, .int .u32 mx, .bool mb, .int .u8 gt, .bool gm] 35)).alloc (.cells #[.slice P mp cp, .slice R mr cr] 38)) = wa at *
  generalize hbx : w.heap.size = bx at *
  have c0 : wa.cell? ⟨sb, 0, none⟩ = some (.bool true) := HBA.out.cell 0
  refine (off_made _ _ c0).mono ?_
  rintro e w1 ⟨rfl, rfl⟩
  have e0 : wa.cell? ⟨bx, 0, none⟩ = some (.int .u8 1) := HX.out.e.cell 0
  have e1 : wa.cell? ⟨bx, 1, none⟩ = some (.int .i64 a) := HX.out.e.cell 1
  clear c0
  go_wp2_with fail
  refine (gettable_out a HBA.out HO.out hn HA.out).mono ?_
  rintro e w1 ⟨rfl, rfl⟩
  clear e0 e1
  go_wp2_with fail
  have hd := (Kept.refl S0 wa).drew
  have hS : wa.drew.cell? ⟨bx + 1, 4, none⟩ = some (.int .u8 wl) ∧ wa.drew.cell? ⟨bx + 1, 4 + 1, none⟩ = some (.int .u32 wn) ∧ wa.drew.cell? ⟨bx + 1, 4 + 2, none⟩ = some (.int .u32 wx) ∧ wa.drew.cell? ⟨bx + 1, 4 + 3, none⟩ = some (.bool wb) := ⟨HX.out.i.cell 4, HX.out.i.cell 5, HX.out.i.cell 6, HX.out.i.cell 7⟩
  refine wp_region_R (fun w' => w'.cell? ⟨bx + 1, 4, none⟩ = some (.int .u8 wl) ∧ w'.cell? ⟨bx + 1, 4 + 1, none⟩ = some (.int .u32 wn) ∧ w'.cell? ⟨bx + 1, 4 + 2, none⟩ = some (.int .u32 wx) ∧ w'.cell? ⟨bx + 1, 4 + 3, none⟩ = some (.bool wb)) [] (by kernel_rfl) ?_
  have HK2 := Lib.hid HK.out.drew
  clear HX HK HO HBA hd
  generalize wa.drew = w2 at *
  (first | (refine tkR 0 (v := ?_) rfl hS ⟨by rfl, ?_⟩ ?_; rotate_left; intro w h; (try dsimp only at h); first | (go_simp; done) | (go_simp; with_reducible rfl)) | refine skR 0 rfl (fun _ => hS) (by rfl) ?_); simp only [zq1, zq2, Act.put, zq4, zq5, zq6]
  (first | (refine tkR 2 (v := ?_) rfl hS ⟨by rfl, ?_⟩ ?_; rotate_left; intro w h; (try dsimp only at h); first | (go_simp; done) | (go_simp; with_reducible rfl)) | refine skR 2 rfl (fun _ => hS) (by rfl) ?_); simp only [zq1, zq2, zq3, Act.put, zq4, zq5, zq6]
  (first | (refine tkR 3 (v := ?_) rfl hS ⟨by rfl, ?_⟩ ?_; rotate_left; intro w h; (try dsimp only at h); first | (go_simp; done) | (go_simp; with_reducible rfl)) | refine skR 3 rfl (fun _ => hS) (by rfl) ?_); simp only [zq1, zq2, zq3, Act.put, zq4, zq5, zq6]
  refine wpAnyR_one 1 rfl (by kernel_rfl) (fun K hK => ?_)
  go_simp
  go_at_call 17
  refine (ttype_nil _).mono ?_
  rintro e w3 ⟨rfl, hk3⟩
  have hS3 : w3.cell? ⟨bx + 1, 4, none⟩ = some (.int .u8 wl) ∧ w3.cell? ⟨bx + 1, 4 + 1, none⟩ = some (.int .u32 wn) ∧ w3.cell? ⟨bx + 1, 4 + 2, none⟩ = some (.int .u32 wx) ∧ w3.cell? ⟨bx + 1, 4 + 3, none⟩ = some (.bool wb) := ⟨keep0 hk3 hS.1, keep0 hk3 hS.2.1, keep0 hk3 hS.2.2.1, keep0 hk3 hS.2.2.2⟩
  refine hK.out _ _ (fun _ => hS3) ?_
  clear hK K
  refine wpAnyR_one 4 rfl (by kernel_rfl) (fun K hK => ?_)
  go_simp
  go_at_call 33
  refine (fittab_any 0 0 0 wl wn wx false wb _).mono ?_
  rintro e w4 ⟨rfl, hk4⟩
  have hS4 : w4.cell? ⟨bx + 1, 4, none⟩ = some (.int .u8 wl) ∧ w4.cell? ⟨bx + 1, 4 + 1, none⟩ = some (.int .u32 wn) ∧ w4.cell? ⟨bx + 1, 4 + 2, none⟩ = some (.int .u32 wx) ∧ w4.cell? ⟨bx + 1, 4 + 3, none⟩ = some (.bool wb) := ⟨keep0 hk4 hS3.1, keep0 hk4 hS3.2.1, keep0 hk4 hS3.2.2.1, keep0 hk4 hS3.2.2.2⟩
  refine hK.out _ _ (fun _ => hS4) ?_
  clear hK K
  (first | (refine tkR 5 (v := ?_) rfl hS4 ⟨by rfl, ?_⟩ ?_; rotate_left; intro w h; (try dsimp only at h); first | (go_simp; done) | (go_simp; with_reducible rfl)) | refine skR 5 rfl (fun _ => hS4) (by rfl) ?_); simp only [zq1, zq2, zq3, Act.put, zq4, zq5, zq6]
  refine wpAnyR_done (by kernel_rfl) ?_ _
  have HK4 := Lib.hid ((HK2.out.then0 hk3).then0 hk4)
  clear hS hS3 hS4 hk3 hk4 HK2
  go_wp2_with fail
  go_ret
  exact ⟨rfl, HK4.out⟩
set_option maxRecDepth 100000 in
set_option maxHeartbeats 3200000 in
theorem fits_mem_in (a tp tbb tn : Nat) (tmn tx : Int) (tb : Bool) (tf : Nat → UInt8) (hown : Own w B 59 1 AnyV ml n F) (hn : n ≤ 65536) (ha : a < n) (hF : F a = .pointer (some ⟨tp, 0, none⟩)) (ht : M19.MemAt w tp tbb tn tmn tx tb tf) (hN : tn ≤ 1048576) (s1 s2 : ByteArray) (k fi wl wn wx : Int) (wb : Bool) (mn mx : Int) (mb : Bool) (gt : Int) (gm : Bool) (P R : Option Addr) (mp mr cp cr : Nat) (hb : Blk w sb 132 (stCells fl tl ml gl el dl il)) :
    Calls Tryz.prog 10 #[.pointer (some ⟨sb, 0, none⟩), .agg #[.int .u8 2, .int .i64 (a : Int)], .agg #[.string s1, .string s2, .int .u8 k, .int .u32 fi, .int .u8 wl, .int .u32 wn, .int .u32 wx, .bool wb, .int .u32 mn, .int .u32 mx, .bool mb, .int .u8 gt, .bool gm], .agg #[.slice P mp cp, .slice R mr cr]] w fun e w' => e = .returned (.int .i64 (fitR ((2 : Int) == k) (fitLB ((tn / 65536 : Nat) : Int) tx tb mn mx mb))) ∧ Kept S0 w w' := by
  have hx := fbox_new w 2 (a : Int) #[.string s1, .string s2, .int .u8 k, .int .u32 fi, .int .u8 wl, .int .u32 wn, .int .u32 wx, .bool wb, .int .u32 mn, .int .u32 mx, .bool mb, .int .u8 gt, .bool gm] #[.slice P mp cp, .slice R mr cr]
  have hka : Kept S0 w (((w.alloc (.cells #[.int .u8 2, .int .i64 (a : Int)] 25)).alloc (.cells #[.string s1, .string s2, .int .u8 k, .int .u32 fi, .int .u8 wl, .int .u32 wn, .int .u32 wx, .bool wb, .int .u32 mn, .int .u32 mx, .bool mb, .int .u8 gt, .bool gm] 35)).alloc (.cells #[.slice P mp cp, .slice R mr cr] 38)) := (((Kept.refl S0 w).alloc _).alloc _).alloc _
  have hba := hka.blk hb (fun x => x)
  have HO := Lib.hid (hown.kept hka (fun _ _ x => x))
  have HT := Lib.hid (ht.kept0 hka)
  have HBA := Lib.hid hba
  have HX := Lib.hid hx
  have HK := Lib.hid hka
  clear hb hba hx hka hown ht
  go_enter Tryz.func10, Tryz.ntmps10
  go_wp2_with fail
  generalize (((w.alloc (.cells #[.int .u8 2, .int .i64 (a : Int)] 25)).alloc (.cells #[.string s1, .string s2, .int .u8 k, .int .u32 fi, .int .u8 wl, .int .u32 wn, .int .u32 wx, .bool wb, .int .u32 mn, .int .u32 mx, .bool mb, .int .u8 gt, .bool gm] 35)).alloc (.cells #[.slice P mp cp, .slice R mr cr] 38)) = wa at *
  generalize hbx : w.heap.size = bx at *
  have c0 : wa.cell? ⟨sb, 0, none⟩ = some (.bool true) := HBA.out.cell 0
  refine (off_made _ _ c0).mono ?_
  rintro e w1 ⟨rfl, rfl⟩
  have e0 : wa.cell? ⟨bx, 0, none⟩ = some (.int .u8 2) := HX.out.e.cell 0
  have e1 : wa.cell? ⟨bx, 1, none⟩ = some (.int .i64 (a : Int)) := HX.out.e.cell 1
  clear c0
  go_wp2_with fail
  refine (getmem_in a (some ⟨tp, 0, none⟩) HBA.out HO.out hn ha hF).mono ?_
  rintro e w1 ⟨rfl, rfl⟩
  clear e0 e1
  go_wp2_with fail
  have hd := (Kept.refl S0 wa).drew
  have hS : wa.drew.cell? ⟨bx + 1, 8, none⟩ = some (.int .u32 mn) ∧ wa.drew.cell? ⟨bx + 1, 8 + 1, none⟩ = some (.int .u32 mx) ∧ wa.drew.cell? ⟨bx + 1, 8 + 2, none⟩ = some (.bool mb) := ⟨HX.out.i.cell 8, HX.out.i.cell 9, HX.out.i.cell 10⟩
  refine wp_region_R (fun w' => w'.cell? ⟨bx + 1, 8, none⟩ = some (.int .u32 mn) ∧ w'.cell? ⟨bx + 1, 8 + 1, none⟩ = some (.int .u32 mx) ∧ w'.cell? ⟨bx + 1, 8 + 2, none⟩ = some (.bool mb)) [] (by kernel_rfl) ?_
  have HT2 := Lib.hid (HT.out.kept0 hd)
  have HX2 := Lib.hid (HX.out.kept hd)
  have HK2 := Lib.hid HK.out.drew
  clear HT HX HK HO HBA hd
  generalize wa.drew = w2 at *
  (first | (refine tkR 0 (v := ?_) rfl hS ⟨by rfl, ?_⟩ ?_; rotate_left; intro w h; (try dsimp only at h); first | (go_simp; done) | (go_simp; with_reducible rfl)) | refine skR 0 rfl (fun _ => hS) (by rfl) ?_); simp only [zq1, zq2, Act.put, zq4, zq5, zq6]
  (first | (refine tkR 2 (v := ?_) rfl hS ⟨by rfl, ?_⟩ ?_; rotate_left; intro w h; (try dsimp only at h); first | (go_simp; done) | (go_simp; with_reducible rfl)) | refine skR 2 rfl (fun _ => hS) (by rfl) ?_); simp only [zq1, zq2, zq3, Act.put, zq4, zq5, zq6]
  (first | (refine tkR 3 (v := ?_) rfl hS ⟨by rfl, ?_⟩ ?_; rotate_left; intro w h; (try dsimp only at h); first | (go_simp; done) | (go_simp; with_reducible rfl)) | refine skR 3 rfl (fun _ => hS) (by rfl) ?_); simp only [zq1, zq2, zq3, Act.put, zq4, zq5, zq6]
  refine wpAnyR_one 1 rfl (by kernel_rfl) (fun K hK => ?_)
  go_simp
  go_at_call 19
  refine (M19.type_made HT2.out hN).mono ?_
  rintro e w3 ⟨rfl, hk3⟩
  have hS3 : w3.cell? ⟨bx + 1, 8, none⟩ = some (.int .u32 mn) ∧ w3.cell? ⟨bx + 1, 8 + 1, none⟩ = some (.int .u32 mx) ∧ w3.cell? ⟨bx + 1, 8 + 2, none⟩ = some (.bool mb) := ⟨keep0 hk3 hS.1, keep0 hk3 hS.2.1, keep0 hk3 hS.2.2⟩
  refine hK.out _ _ (fun _ => hS3) ?_
  clear hK K
  refine wpAnyR_one 4 rfl (by kernel_rfl) (fun K hK => ?_)
  go_simp
  go_at_call 34
  refine (fit_any ((tn / 65536 : Nat) : Int) tx mn mx tb mb _).mono ?_
  rintro e w4 ⟨rfl, hk4⟩
  have hS4 : w4.cell? ⟨bx + 1, 8, none⟩ = some (.int .u32 mn) ∧ w4.cell? ⟨bx + 1, 8 + 1, none⟩ = some (.int .u32 mx) ∧ w4.cell? ⟨bx + 1, 8 + 2, none⟩ = some (.bool mb) := ⟨keep0 hk4 hS3.1, keep0 hk4 hS3.2.1, keep0 hk4 hS3.2.2⟩
  refine hK.out _ _ (fun _ => hS4) ?_
  clear hK K
  generalize hok0 : (fitLB ((tn / 65536 : Nat) : Int) tx tb mn mx mb) = okb at *
  (first | (refine tkR 5 (v := ?_) rfl hS4 ⟨by rfl, ?_⟩ ?_; rotate_left; intro w h; (try dsimp only at h); first | (go_simp; done) | (go_simp; with_reducible rfl)) | refine skR 5 rfl (fun _ => hS4) (by rfl) ?_); simp only [zq1, zq2, zq3, Act.put, zq4, zq5, zq6]
  refine wpAnyR_done (by kernel_rfl) ?_ _
  have HX3 := Lib.hid ((HX2.out.kept hk3).kept hk4)
  have HK4 := Lib.hid ((HK2.out.then0 hk3).then0 hk4)
  have HOK := Lib.hid hok0
  clear hS hS3 hS4 hk3 hk4 HX2 HK2 HT2 hok0
  have e0 := HX3.out.e.cell 0
  have i2 : w4.cell? ⟨bx + 1, 2, none⟩ = some (.int .u8 k) := HX3.out.i.cell 2
  cases hk : ((2 : Int) == k) with
  | false =>
    have hk1 : ((2 : Int) != k) = true := by unfold bne; rw [hk]; rfl
    have HKK := Lib.hid hk
    clear hk
    go_wp2_with fail
    go_ret
    exact ⟨ret_int (by rw [HKK.out]; simp [fitR]), HK4.out⟩
  | true =>
    have hk1 : ((2 : Int) != k) = false := by unfold bne; rw [hk]; rfl
    have HKK := Lib.hid hk
    clear hk
    cases hok : (okb : Bool) with
    | false =>
      have HO2 := Lib.hid (HOK.out.trans hok)
      subst hok
      go_wp2_with fail
      go_ret
      exact ⟨ret_int (by rw [HKK.out, HO2.out]; rfl), HK4.out⟩
    | true =>
      have HO2 := Lib.hid (HOK.out.trans hok)
      subst hok
      go_wp2_with fail
      go_ret
      exact ⟨ret_int (by rw [HKK.out, HO2.out]; rfl), HK4.out⟩
set_option maxRecDepth 100000 in
set_option maxHeartbeats 3200000 in
theorem fits_mem_out (a : Int) (hown : Own w B 59 1 AnyV ml n F) (hn : n ≤ 65536) (ha : a < 0 ∨ (n : Int) ≤ a) (s1 s2 : ByteArray) (k fi wl wn wx : Int) (wb : Bool) (mn mx : Int) (mb : Bool) (gt : Int) (gm : Bool) (P R : Option Addr) (mp mr cp cr : Nat) (hb : Blk w sb 132 (stCells fl tl ml gl el dl il)) :
    Calls Tryz.prog 10 #[.pointer (some ⟨sb, 0, none⟩), .agg #[.int .u8 2, .int .i64 a], .agg #[.string s1, .string s2, .int .u8 k, .int .u32 fi, .int .u8 wl, .int .u32 wn, .int .u32 wx, .bool wb, .int .u32 mn, .int .u32 mx, .bool mb, .int .u8 gt, .bool gm], .agg #[.slice P mp cp, .slice R mr cr]] w fun e w' => e = .returned (.int .i64 11) ∧ Kept S0 w w' := by
  have hx := fbox_new w 2 a #[.string s1, .string s2, .int .u8 k, .int .u32 fi, .int .u8 wl, .int .u32 wn, .int .u32 wx, .bool wb, .int .u32 mn, .int .u32 mx, .bool mb, .int .u8 gt, .bool gm] #[.slice P mp cp, .slice R mr cr]
  have hka : Kept S0 w (((w.alloc (.cells #[.int .u8 2, .int .i64 a] 25)).alloc (.cells #[.string s1, .string s2, .int .u8 k, .int .u32 fi, .int .u8 wl, .int .u32 wn, .int .u32 wx, .bool wb, .int .u32 mn, .int .u32 mx, .bool mb, .int .u8 gt, .bool gm] 35)).alloc (.cells #[.slice P mp cp, .slice R mr cr] 38)) := (((Kept.refl S0 w).alloc _).alloc _).alloc _
  have hba := hka.blk hb (fun x => x)
  have HO := Lib.hid (hown.kept hka (fun _ _ x => x))
  have HBA := Lib.hid hba
  have HX := Lib.hid hx
  have HK := Lib.hid hka
  have HA := Lib.hid ha
  clear hb hba hx hka hown ha
  go_enter Tryz.func10, Tryz.ntmps10
  go_wp2_with fail
  generalize (((w.alloc (.cells #[.int .u8 2, .int .i64 a] 25)).alloc (.cells #[.string s1, .string s2, .int .u8 k, .int .u32 fi, .int .u8 wl, .int .u32 wn, .int .u32 wx, .bool wb, .int .u32 mn, .int .u32 mx, .bool mb, .int .u8 gt, .bool gm] 35)).alloc (.cells #[.slice P mp cp, .slice R mr cr] 38)) = wa at *
  generalize hbx : w.heap.size = bx at *
  have c0 : wa.cell? ⟨sb, 0, none⟩ = some (.bool true) := HBA.out.cell 0
  refine (off_made _ _ c0).mono ?_
  rintro e w1 ⟨rfl, rfl⟩
  have e0 : wa.cell? ⟨bx, 0, none⟩ = some (.int .u8 2) := HX.out.e.cell 0
  have e1 : wa.cell? ⟨bx, 1, none⟩ = some (.int .i64 a) := HX.out.e.cell 1
  clear c0
  go_wp2_with fail
  refine (getmem_out a HBA.out HO.out hn HA.out).mono ?_
  rintro e w1 ⟨rfl, rfl⟩
  clear e0 e1
  go_wp2_with fail
  have hd := (Kept.refl S0 wa).drew
  have hS : wa.drew.cell? ⟨bx + 1, 8, none⟩ = some (.int .u32 mn) ∧ wa.drew.cell? ⟨bx + 1, 8 + 1, none⟩ = some (.int .u32 mx) ∧ wa.drew.cell? ⟨bx + 1, 8 + 2, none⟩ = some (.bool mb) := ⟨HX.out.i.cell 8, HX.out.i.cell 9, HX.out.i.cell 10⟩
  refine wp_region_R (fun w' => w'.cell? ⟨bx + 1, 8, none⟩ = some (.int .u32 mn) ∧ w'.cell? ⟨bx + 1, 8 + 1, none⟩ = some (.int .u32 mx) ∧ w'.cell? ⟨bx + 1, 8 + 2, none⟩ = some (.bool mb)) [] (by kernel_rfl) ?_
  have HK2 := Lib.hid HK.out.drew
  clear HX HK HO HBA hd
  generalize wa.drew = w2 at *
  (first | (refine tkR 0 (v := ?_) rfl hS ⟨by rfl, ?_⟩ ?_; rotate_left; intro w h; (try dsimp only at h); first | (go_simp; done) | (go_simp; with_reducible rfl)) | refine skR 0 rfl (fun _ => hS) (by rfl) ?_); simp only [zq1, zq2, Act.put, zq4, zq5, zq6]
  (first | (refine tkR 2 (v := ?_) rfl hS ⟨by rfl, ?_⟩ ?_; rotate_left; intro w h; (try dsimp only at h); first | (go_simp; done) | (go_simp; with_reducible rfl)) | refine skR 2 rfl (fun _ => hS) (by rfl) ?_); simp only [zq1, zq2, zq3, Act.put, zq4, zq5, zq6]
  (first | (refine tkR 3 (v := ?_) rfl hS ⟨by rfl, ?_⟩ ?_; rotate_left; intro w h; (try dsimp only at h); first | (go_simp; done) | (go_simp; with_reducible rfl)) | refine skR 3 rfl (fun _ => hS) (by rfl) ?_); simp only [zq1, zq2, zq3, Act.put, zq4, zq5, zq6]
  refine wpAnyR_one 1 rfl (by kernel_rfl) (fun K hK => ?_)
  go_simp
  go_at_call 19
  refine (mtype_nil _).mono ?_
  rintro e w3 ⟨rfl, hk3⟩
  have hS3 : w3.cell? ⟨bx + 1, 8, none⟩ = some (.int .u32 mn) ∧ w3.cell? ⟨bx + 1, 8 + 1, none⟩ = some (.int .u32 mx) ∧ w3.cell? ⟨bx + 1, 8 + 2, none⟩ = some (.bool mb) := ⟨keep0 hk3 hS.1, keep0 hk3 hS.2.1, keep0 hk3 hS.2.2⟩
  refine hK.out _ _ (fun _ => hS3) ?_
  clear hK K
  refine wpAnyR_one 4 rfl (by kernel_rfl) (fun K hK => ?_)
  go_simp
  go_at_call 34
  refine (fit_any 0 0 mn mx false mb _).mono ?_
  rintro e w4 ⟨rfl, hk4⟩
  have hS4 : w4.cell? ⟨bx + 1, 8, none⟩ = some (.int .u32 mn) ∧ w4.cell? ⟨bx + 1, 8 + 1, none⟩ = some (.int .u32 mx) ∧ w4.cell? ⟨bx + 1, 8 + 2, none⟩ = some (.bool mb) := ⟨keep0 hk4 hS3.1, keep0 hk4 hS3.2.1, keep0 hk4 hS3.2.2⟩
  refine hK.out _ _ (fun _ => hS4) ?_
  clear hK K
  (first | (refine tkR 5 (v := ?_) rfl hS4 ⟨by rfl, ?_⟩ ?_; rotate_left; intro w h; (try dsimp only at h); first | (go_simp; done) | (go_simp; with_reducible rfl)) | refine skR 5 rfl (fun _ => hS4) (by rfl) ?_); simp only [zq1, zq2, zq3, Act.put, zq4, zq5, zq6]
  refine wpAnyR_done (by kernel_rfl) ?_ _
  have HK4 := Lib.hid ((HK2.out.then0 hk3).then0 hk4)
  clear hS hS3 hS4 hk3 hk4 HK2
  go_wp2_with fail
  go_ret
  exact ⟨rfl, HK4.out⟩
set_option maxRecDepth 100000 in
set_option maxHeartbeats 3200000 in
theorem fits_other (ki a : Int) (h0 : (ki == 0) = false) (h1 : (ki == 1) = false) (h2 : (ki == 2) = false) (h3 : (ki == 3) = false) (s1 s2 : ByteArray) (k fi wl wn wx : Int) (wb : Bool) (mn mx : Int) (mb : Bool) (gt : Int) (gm : Bool) (P R : Option Addr) (mp mr cp cr : Nat) (hb : Blk w sb 132 (stCells fl tl ml gl el dl il)) :
    Calls Tryz.prog 10 #[.pointer (some ⟨sb, 0, none⟩), .agg #[.int .u8 ki, .int .i64 a], .agg #[.string s1, .string s2, .int .u8 k, .int .u32 fi, .int .u8 wl, .int .u32 wn, .int .u32 wx, .bool wb, .int .u32 mn, .int .u32 mx, .bool mb, .int .u8 gt, .bool gm], .agg #[.slice P mp cp, .slice R mr cr]] w fun e w' => e = .returned (.int .i64 11) ∧ Kept S0 w w' := by
  have hx := fbox_new w ki a #[.string s1, .string s2, .int .u8 k, .int .u32 fi, .int .u8 wl, .int .u32 wn, .int .u32 wx, .bool wb, .int .u32 mn, .int .u32 mx, .bool mb, .int .u8 gt, .bool gm] #[.slice P mp cp, .slice R mr cr]
  have hka : Kept S0 w (((w.alloc (.cells #[.int .u8 ki, .int .i64 a] 25)).alloc (.cells #[.string s1, .string s2, .int .u8 k, .int .u32 fi, .int .u8 wl, .int .u32 wn, .int .u32 wx, .bool wb, .int .u32 mn, .int .u32 mx, .bool mb, .int .u8 gt, .bool gm] 35)).alloc (.cells #[.slice P mp cp, .slice R mr cr] 38)) := (((Kept.refl S0 w).alloc _).alloc _).alloc _
  have hba := hka.blk hb (fun x => x)
  have HBA := Lib.hid hba
  have HX := Lib.hid hx
  have HK := Lib.hid hka
  clear hb hba hx hka
  go_enter Tryz.func10, Tryz.ntmps10
  go_wp2_with fail
  generalize (((w.alloc (.cells #[.int .u8 ki, .int .i64 a] 25)).alloc (.cells #[.string s1, .string s2, .int .u8 k, .int .u32 fi, .int .u8 wl, .int .u32 wn, .int .u32 wx, .bool wb, .int .u32 mn, .int .u32 mx, .bool mb, .int .u8 gt, .bool gm] 35)).alloc (.cells #[.slice P mp cp, .slice R mr cr] 38)) = wa at *
  generalize hbx : w.heap.size = bx at *
  have c0 : wa.cell? ⟨sb, 0, none⟩ = some (.bool true) := HBA.out.cell 0
  refine (off_made _ _ c0).mono ?_
  rintro e w1 ⟨rfl, rfl⟩
  have e0 : wa.cell? ⟨bx, 0, none⟩ = some (.int .u8 ki) := HX.out.e.cell 0
  have e1 : wa.cell? ⟨bx, 1, none⟩ = some (.int .i64 a) := HX.out.e.cell 1
  clear c0
  go_wp2_with fail
  go_ret
  exact ⟨rfl, HK.out⟩
end
end Go.Proofs.YtlnkdnmeikpckaaGreat
namespace Go.Proofs.YtlnkdnmeikpckaaGreat
open Go.RowKit
set_option maxRecDepth 100000
section
variable {w : World} {sb B n : Nat} {fl tl ml gl el dl il : Value} {F : Nat → Value}
set_option maxRecDepth 100000 in
set_option maxHeartbeats 3200000 in
theorem fits_func_out (a : Int) (hown : Own w B 51 6 AnyV fl n F) (hn : n ≤ 65536) (ha : a < 0 ∨ (n : Int) ≤ a) (s1 s2 : ByteArray) (k fi wl wn wx : Int) (wb : Bool) (mn mx : Int) (mb : Bool) (gt : Int) (gm : Bool) (P R : Option Addr) (mp mr cp cr : Nat) (pv ru : Nat → UInt8) (hP : TSl w P mp cp pv) (hR : TSl w R mr cr ru) (hb : Blk w sb 132 (stCells fl tl ml gl el dl il)) :
    Calls Tryz.prog 10 #[.pointer (some ⟨sb, 0, none⟩), .agg #[.int .u8 0, .int .i64 a], .agg #[.string s1, .string s2, .int .u8 k, .int .u32 fi, .int .u8 wl, .int .u32 wn, .int .u32 wx, .bool wb, .int .u32 mn, .int .u32 mx, .bool mb, .int .u8 gt, .bool gm], .agg #[.slice P mp cp, .slice R mr cr]] w fun e w' => e = .returned (.int .i64 11) ∧ Kept S0 w w' := by
  have hx := fbox_new w 0 a #[.string s1, .string s2, .int .u8 k, .int .u32 fi, .int .u8 wl, .int .u32 wn, .int .u32 wx, .bool wb, .int .u32 mn, .int .u32 mx, .bool mb, .int .u8 gt, .bool gm] #[.slice P mp cp, .slice R mr cr]
  have hka : Kept S0 w (((w.alloc (.cells #[.int .u8 0, .int .i64 a] 25)).alloc (.cells #[.string s1, .string s2, .int .u8 k, .int .u32 fi, .int .u8 wl, .int .u32 wn, .int .u32 wx, .bool wb, .int .u32 mn, .int .u32 mx, .bool mb, .int .u8 gt, .bool gm] 35)).alloc (.cells #[.slice P mp cp, .slice R mr cr] 38)) := (((Kept.refl S0 w).alloc _).alloc _).alloc _
  have hba := hka.blk hb (fun x => x)
  have hkb := hka.alloc (.cells #[.slice none 0 0, .slice none 0 0, .bool false, .string { data := #[] }, .int .i64 0, .int .i64 0] 51)
  have HO := Lib.hid (hown.kept hkb (fun _ _ x => x))
  have HBA := Lib.hid hba
  have HB2 := Lib.hid (hkb.blk hb (fun x => x))
  have HX := Lib.hid hx
  have HP := Lib.hid (hP.kept hkb)
  have HP0 := Lib.hid hP
  have HR0 := Lib.hid hR
  have HR := Lib.hid (hR.kept hkb)
  have HK := Lib.hid hkb
  have HX2 := Lib.hid (hx.kept ((Kept.refl S0 _).alloc (.cells #[.slice none 0 0, .slice none 0 0, .bool false, .string { data := #[] }, .int .i64 0, .int .i64 0] 51)))
  have HZ := Lib.hid (Blk.new (((w.alloc (.cells #[.int .u8 0, .int .i64 a] 25)).alloc (.cells #[.string s1, .string s2, .int .u8 k, .int .u32 fi, .int .u8 wl, .int .u32 wn, .int .u32 wx, .bool wb, .int .u32 mn, .int .u32 mx, .bool mb, .int .u8 gt, .bool gm] 35)).alloc (.cells #[.slice P mp cp, .slice R mr cr] 38)) 51 #[.slice none 0 0, .slice none 0 0, .bool false, .string { data := #[] }, .int .i64 0, .int .i64 0])
  have HSZ := Lib.hid (show (((w.alloc (.cells #[.int .u8 0, .int .i64 a] 25)).alloc (.cells #[.string s1, .string s2, .int .u8 k, .int .u32 fi, .int .u8 wl, .int .u32 wn, .int .u32 wx, .bool wb, .int .u32 mn, .int .u32 mx, .bool mb, .int .u8 gt, .bool gm] 35)).alloc (.cells #[.slice P mp cp, .slice R mr cr] 38)).heap.size = w.heap.size + 3 by simp)
  have HA := Lib.hid ha
  clear hb hba hx hka hown ha hkb hP hR
  go_enter Tryz.func10, Tryz.ntmps10
  go_wp2_with fail
  generalize (((w.alloc (.cells #[.int .u8 0, .int .i64 a] 25)).alloc (.cells #[.string s1, .string s2, .int .u8 k, .int .u32 fi, .int .u8 wl, .int .u32 wn, .int .u32 wx, .bool wb, .int .u32 mn, .int .u32 mx, .bool mb, .int .u8 gt, .bool gm] 35)).alloc (.cells #[.slice P mp cp, .slice R mr cr] 38)) = wa at *
  generalize hbx : w.heap.size = bx at *
  have c0 : wa.cell? ⟨sb, 0, none⟩ = some (.bool true) := HBA.out.cell 0
  refine (off_made _ _ c0).mono ?_
  rintro e w1 ⟨rfl, rfl⟩
  have e0 : wa.cell? ⟨bx, 0, none⟩ = some (.int .u8 0) := HX.out.e.cell 0
  have e1 : (wa.alloc (.cells #[.slice none 0 0, .slice none 0 0, .bool false, .string { data := #[] }, .int .i64 0, .int .i64 0] 51)).cell? ⟨bx, 1, none⟩ = some (.int .i64 a) := HX2.out.e.cell 1
  clear c0
  go_wp2_with fail
  clear e0 e1
  refine (getfunc_out a HB2.out HO.out hn HA.out).mono ?_
  rintro e w3 ⟨rfl, hk3⟩
  generalize hxs : wa.heap.size = xs at *
  have HK3 := Lib.hid (HK.out.then0 hk3)
  have hz3 := hk3.blk HZ.out (fun x => x)
  have hx3 := HX2.out.kept hk3
  have hp3 := HP.out.kept hk3
  have hr3 := HR.out.kept hk3
  have hb3 := hk3.blk HB2.out (fun x => x)
  clear hk3
  have f0 := hz3.frozen 0
  have g0 : w3.cell? ⟨xs, 0, none⟩ = some (.slice none 0 0) := hz3.cell 0
  have f1 := hz3.frozen 1
  have g1 : w3.cell? ⟨xs, 1, none⟩ = some (.slice none 0 0) := hz3.cell 1
  have f2 := hz3.frozen 2
  have g2 : w3.cell? ⟨xs, 2, none⟩ = some (.bool false) := hz3.cell 2
  have f3 := hz3.frozen 3
  have g3 : w3.cell? ⟨xs, 3, none⟩ = some (.string { data := #[] }) := hz3.cell 3
  have f4 := hz3.frozen 4
  have g4 : w3.cell? ⟨xs, 4, none⟩ = some (.int .i64 0) := hz3.cell 4
  have f5 := hz3.frozen 5
  have g5 : w3.cell? ⟨xs, 5, none⟩ = some (.int .i64 0) := hz3.cell 5
  have hk4 := (((((((Kept.refl (S1 (xs)) w3).setCell (p := ⟨xs, 0, none⟩) (.inl rfl) (.slice none 0 0)).setCell (p := ⟨xs, 1, none⟩) (.inl rfl) (.slice none 0 0)).setCell (p := ⟨xs, 2, none⟩) (.inl rfl) (.bool false)).setCell (p := ⟨xs, 3, none⟩) (.inl rfl) (.string { data := #[] })).setCell (p := ⟨xs, 4, none⟩) (.inl rfl) (.int .i64 0)).setCell (p := ⟨xs, 5, none⟩) (.inl rfl) (.int .i64 0))
  have hz4 : Blk ((((((w3.setCell ⟨xs, 0, none⟩ (.slice none 0 0)).setCell ⟨xs, 1, none⟩ (.slice none 0 0)).setCell ⟨xs, 2, none⟩ (.bool false)).setCell ⟨xs, 3, none⟩ (.string { data := #[] })).setCell ⟨xs, 4, none⟩ (.int .i64 0)).setCell ⟨xs, 5, none⟩ (.int .i64 0)) xs 51 #[.slice none 0 0, .slice none 0 0, .bool false, .string { data := #[] }, .int .i64 0, .int .i64 0] := ((((((hz3.set_ 0 (.slice none 0 0)).set_ 1 (.slice none 0 0)).set_ 2 (.bool false)).set_ 3 (.string { data := #[] })).set_ 4 (.int .i64 0)).set_ 5 (.int .i64 0))
  have hxne : xs = bx + 3 := by have := HSZ.out; omega
  have ht4 := hk4.blk hx3.t (fun e => by have e' : bx + 2 = xs := e; omega)
  have HKK := Lib.hid (HK3.out.trans_ hk4 (fun i e => .inr (by have e' : i = xs := e; omega)))
  have hP4 := HP0.out.kept HKK.out
  have hR4 := HR0.out.kept HKK.out
  have hN := fun (q : Nat → UInt8) => (⟨by rw [show byteV q = byteV q from rfl]; exact Sl.nil _, fun _ => ⟨rfl, rfl⟩, by omega⟩ : TSl ((((((w3.setCell ⟨xs, 0, none⟩ (.slice none 0 0)).setCell ⟨xs, 1, none⟩ (.slice none 0 0)).setCell ⟨xs, 2, none⟩ (.bool false)).setCell ⟨xs, 3, none⟩ (.string { data := #[] })).setCell ⟨xs, 4, none⟩ (.int .i64 0)).setCell ⟨xs, 5, none⟩ (.int .i64 0)) none 0 0 q)
  have HSM := Lib.hid (same_any none none P R 0 0 mp mr 0 0 cp cr (fun _ => 0) (fun _ => 0) pv ru ((((((w3.setCell ⟨xs, 0, none⟩ (.slice none 0 0)).setCell ⟨xs, 1, none⟩ (.slice none 0 0)).setCell ⟨xs, 2, none⟩ (.bool false)).setCell ⟨xs, 3, none⟩ (.string { data := #[] })).setCell ⟨xs, 4, none⟩ (.int .i64 0)).setCell ⟨xs, 5, none⟩ (.int .i64 0)) (hN _) (hN _) hP4 hR4)
  have s0 : ((((((w3.setCell ⟨xs, 0, none⟩ (.slice none 0 0)).setCell ⟨xs, 1, none⟩ (.slice none 0 0)).setCell ⟨xs, 2, none⟩ (.bool false)).setCell ⟨xs, 3, none⟩ (.string { data := #[] })).setCell ⟨xs, 4, none⟩ (.int .i64 0)).setCell ⟨xs, 5, none⟩ (.int .i64 0)).cell? ⟨xs, 0, none⟩ = some (.slice none 0 0) := hz4.cell 0
  have s1 : ((((((w3.setCell ⟨xs, 0, none⟩ (.slice none 0 0)).setCell ⟨xs, 1, none⟩ (.slice none 0 0)).setCell ⟨xs, 2, none⟩ (.bool false)).setCell ⟨xs, 3, none⟩ (.string { data := #[] })).setCell ⟨xs, 4, none⟩ (.int .i64 0)).setCell ⟨xs, 5, none⟩ (.int .i64 0)).cell? ⟨xs, 1, none⟩ = some (.slice none 0 0) := hz4.cell 1
  have s2 : ((((((w3.setCell ⟨xs, 0, none⟩ (.slice none 0 0)).setCell ⟨xs, 1, none⟩ (.slice none 0 0)).setCell ⟨xs, 2, none⟩ (.bool false)).setCell ⟨xs, 3, none⟩ (.string { data := #[] })).setCell ⟨xs, 4, none⟩ (.int .i64 0)).setCell ⟨xs, 5, none⟩ (.int .i64 0)).cell? ⟨bx + 2, 0, none⟩ = some (.slice P mp cp) := ht4.cell 0
  have s3 : ((((((w3.setCell ⟨xs, 0, none⟩ (.slice none 0 0)).setCell ⟨xs, 1, none⟩ (.slice none 0 0)).setCell ⟨xs, 2, none⟩ (.bool false)).setCell ⟨xs, 3, none⟩ (.string { data := #[] })).setCell ⟨xs, 4, none⟩ (.int .i64 0)).setCell ⟨xs, 5, none⟩ (.int .i64 0)).cell? ⟨bx + 2, 1, none⟩ = some (.slice R mr cr) := ht4.cell 1
  clear hxne hxs hz3 hx3 hp3 hr3 hb3 hk4 hz4 ht4 hP4 hR4 hN HX HX2 HZ HO HB2 HBA HP HR
  go_wp2_with fail
  refine HSM.out.mono ?_
  rintro e w5 ⟨rfl, hk5⟩
  have HK5 := Lib.hid (HKK.out.then0 hk5)
  clear hk5 s0 s1 s2 s3 f0 f1 f2 f3 f4 f5 g0 g1 g2 g3 g4 g5
  go_wp2_with fail
  go_ret
  exact ⟨rfl, HK5.out⟩
set_option maxRecDepth 100000 in
set_option maxHeartbeats 3200000 in
theorem fits_glob_out (a : Int) (hown : Own w B 149 5 AnyV gl n F) (hn : n ≤ 65536) (ha : a < 0 ∨ (n : Int) ≤ a) (s1 s2 : ByteArray) (k fi wl wn wx : Int) (wb : Bool) (mn mx : Int) (mb : Bool) (gt : Int) (gm : Bool) (P R : Option Addr) (mp mr cp cr : Nat) (hb : Blk w sb 132 (stCells fl tl ml gl el dl il)) :
    Calls Tryz.prog 10 #[.pointer (some ⟨sb, 0, none⟩), .agg #[.int .u8 3, .int .i64 a], .agg #[.string s1, .string s2, .int .u8 k, .int .u32 fi, .int .u8 wl, .int .u32 wn, .int .u32 wx, .bool wb, .int .u32 mn, .int .u32 mx, .bool mb, .int .u8 gt, .bool gm], .agg #[.slice P mp cp, .slice R mr cr]] w fun e w' => e = .returned (.int .i64 11) ∧ Kept S0 w w' := by
  have hx := fbox_new w 3 a #[.string s1, .string s2, .int .u8 k, .int .u32 fi, .int .u8 wl, .int .u32 wn, .int .u32 wx, .bool wb, .int .u32 mn, .int .u32 mx, .bool mb, .int .u8 gt, .bool gm] #[.slice P mp cp, .slice R mr cr]
  have hka : Kept S0 w (((w.alloc (.cells #[.int .u8 3, .int .i64 a] 25)).alloc (.cells #[.string s1, .string s2, .int .u8 k, .int .u32 fi, .int .u8 wl, .int .u32 wn, .int .u32 wx, .bool wb, .int .u32 mn, .int .u32 mx, .bool mb, .int .u8 gt, .bool gm] 35)).alloc (.cells #[.slice P mp cp, .slice R mr cr] 38)) := (((Kept.refl S0 w).alloc _).alloc _).alloc _
  have hba := hka.blk hb (fun x => x)
  have hkb := hka.alloc (.cells #[.int .u8 0, .bool false] 33)
  have HO := Lib.hid (hown.kept hkb (fun _ _ x => x))
  have HBA := Lib.hid hba
  have HB2 := Lib.hid (hkb.blk hb (fun x => x))
  have HX := Lib.hid hx
  have HK := Lib.hid hkb
  have HX2 := Lib.hid (hx.kept ((Kept.refl S0 _).alloc (.cells #[.int .u8 0, .bool false] 33)))
  have HZ := Lib.hid (Blk.new (((w.alloc (.cells #[.int .u8 3, .int .i64 a] 25)).alloc (.cells #[.string s1, .string s2, .int .u8 k, .int .u32 fi, .int .u8 wl, .int .u32 wn, .int .u32 wx, .bool wb, .int .u32 mn, .int .u32 mx, .bool mb, .int .u8 gt, .bool gm] 35)).alloc (.cells #[.slice P mp cp, .slice R mr cr] 38)) 33 #[.int .u8 0, .bool false])
  have HSZ := Lib.hid (show (((w.alloc (.cells #[.int .u8 3, .int .i64 a] 25)).alloc (.cells #[.string s1, .string s2, .int .u8 k, .int .u32 fi, .int .u8 wl, .int .u32 wn, .int .u32 wx, .bool wb, .int .u32 mn, .int .u32 mx, .bool mb, .int .u8 gt, .bool gm] 35)).alloc (.cells #[.slice P mp cp, .slice R mr cr] 38)).heap.size = w.heap.size + 3 by simp)
  have HA := Lib.hid ha
  clear hb hba hx hka hown hkb ha
  go_enter Tryz.func10, Tryz.ntmps10
  go_wp2_with fail
  generalize (((w.alloc (.cells #[.int .u8 3, .int .i64 a] 25)).alloc (.cells #[.string s1, .string s2, .int .u8 k, .int .u32 fi, .int .u8 wl, .int .u32 wn, .int .u32 wx, .bool wb, .int .u32 mn, .int .u32 mx, .bool mb, .int .u8 gt, .bool gm] 35)).alloc (.cells #[.slice P mp cp, .slice R mr cr] 38)) = wa at *
  generalize hbx : w.heap.size = bx at *
  have c0 : wa.cell? ⟨sb, 0, none⟩ = some (.bool true) := HBA.out.cell 0
  refine (off_made _ _ c0).mono ?_
  rintro e w1 ⟨rfl, rfl⟩
  have e0 : wa.cell? ⟨bx, 0, none⟩ = some (.int .u8 3) := HX.out.e.cell 0
  have e1 : (wa.alloc (.cells #[.int .u8 0, .bool false] 33)).cell? ⟨bx, 1, none⟩ = some (.int .i64 a) := HX2.out.e.cell 1
  clear c0
  go_wp2_with fail
  clear e0 e1
  refine (getglob_out a HB2.out HO.out hn HA.out).mono ?_
  rintro e w3 ⟨rfl, hk3⟩
  generalize hxs : wa.heap.size = xs at *
  have HK3 := Lib.hid (HK.out.then0 hk3)
  have hz3 := hk3.blk HZ.out (fun x => x)
  have hx3 := HX2.out.kept hk3
  clear hk3
  have f0 := hz3.frozen 0
  have g0 : w3.cell? ⟨xs, 0, none⟩ = some (.int .u8 0) := hz3.cell 0
  have f1 := hz3.frozen 1
  have g1 : w3.cell? ⟨xs, 1, none⟩ = some (.bool false) := hz3.cell 1
  have hk4 := (((Kept.refl (S1 (xs)) w3).setCell (p := ⟨xs, 0, none⟩) (.inl rfl) (.int .u8 0)).setCell (p := ⟨xs, 1, none⟩) (.inl rfl) (.bool false))
  have hz4 : Blk ((w3.setCell ⟨xs, 0, none⟩ (.int .u8 0)).setCell ⟨xs, 1, none⟩ (.bool false)) xs 33 #[.int .u8 0, .bool false] := ((hz3.set_ 0 (.int .u8 0)).set_ 1 (.bool false))
  have hxne : xs = bx + 3 := by have := HSZ.out; omega
  have he4 := hk4.blk hx3.e (fun e => by have e' : bx = xs := e; omega)
  have hi4 := hk4.blk hx3.i (fun e => by have e' : bx + 1 = xs := e; omega)
  have HKK := Lib.hid (HK3.out.trans_ hk4 (fun i e => .inr (by have e' : i = xs := e; omega)))
  have s0 : ((w3.setCell ⟨xs, 0, none⟩ (.int .u8 0)).setCell ⟨xs, 1, none⟩ (.bool false)).cell? ⟨xs, 0, none⟩ = some (.int .u8 0) := hz4.cell 0
  have s1 : ((w3.setCell ⟨xs, 0, none⟩ (.int .u8 0)).setCell ⟨xs, 1, none⟩ (.bool false)).cell? ⟨xs, 1, none⟩ = some (.bool false) := hz4.cell 1
  have t0 : ((w3.setCell ⟨xs, 0, none⟩ (.int .u8 0)).setCell ⟨xs, 1, none⟩ (.bool false)).cell? ⟨bx + 1, 11, none⟩ = some (.int .u8 gt) := hi4.cell 11
  have t1 : ((w3.setCell ⟨xs, 0, none⟩ (.int .u8 0)).setCell ⟨xs, 1, none⟩ (.bool false)).cell? ⟨bx + 1, 11 + 1, none⟩ = some (.bool gm) := hi4.cell 12
  have t2 : ((w3.setCell ⟨xs, 0, none⟩ (.int .u8 0)).setCell ⟨xs, 1, none⟩ (.bool false)).cell? ⟨bx + 1, 2, none⟩ = some (.int .u8 k) := hi4.cell 2
  have t3 : ((w3.setCell ⟨xs, 0, none⟩ (.int .u8 0)).setCell ⟨xs, 1, none⟩ (.bool false)).cell? ⟨bx, 0, none⟩ = some (.int .u8 3) := he4.cell 0
  clear hxne hxs hz3 hx3 hk4 hz4 he4 hi4 HX HX2 HZ HO HB2 HBA
  by_cases hg : (0 : Int) = gt
  · subst hg
    cases gm <;> (go_wp2_with fail; go_ret; exact ⟨rfl, HKK.out⟩)
  · have hg1 : ((0 : Int) = gt) = False := eq_false hg
    have hg2 : ((0 : Int) == gt) = false := beq_eq_false_iff_ne.2 hg
    clear hg
    go_wp2_with fail
    go_ret
    exact ⟨rfl, HKK.out⟩
set_option maxRecDepth 100000 in
set_option maxHeartbeats 3200000 in
theorem fits_glob_in (a : Nat) (gt0 : Int) (gm0 : Bool) (t lo hi : Int) (hown : Own w B 149 5 AnyV gl n F) (hn : n ≤ 65536) (ha : a < n) (f0 : F (a * 5) = .int .u8 gt0) (f1 : F (a * 5 + 1) = .bool gm0) (f2 : F (a * 5 + 2) = .int .u8 t) (f3 : F (a * 5 + 3) = .int .u64 lo) (f4 : F (a * 5 + 4) = .int .u64 hi) (s1 s2 : ByteArray) (k fi wl wn wx : Int) (wb : Bool) (mn mx : Int) (mb : Bool) (gt : Int) (gm : Bool) (P R : Option Addr) (mp mr cp cr : Nat) (hb : Blk w sb 132 (stCells fl tl ml gl el dl il)) :
    Calls Tryz.prog 10 #[.pointer (some ⟨sb, 0, none⟩), .agg #[.int .u8 3, .int .i64 (a : Int)], .agg #[.string s1, .string s2, .int .u8 k, .int .u32 fi, .int .u8 wl, .int .u32 wn, .int .u32 wx, .bool wb, .int .u32 mn, .int .u32 mx, .bool mb, .int .u8 gt, .bool gm], .agg #[.slice P mp cp, .slice R mr cr]] w fun e w' => e = .returned (.int .i64 (fitR ((3 : Int) == k) ((gt0 == gt) && (gm0 == gm)))) ∧ Kept S0 w w' := by
  have hx := fbox_new w 3 (a : Int) #[.string s1, .string s2, .int .u8 k, .int .u32 fi, .int .u8 wl, .int .u32 wn, .int .u32 wx, .bool wb, .int .u32 mn, .int .u32 mx, .bool mb, .int .u8 gt, .bool gm] #[.slice P mp cp, .slice R mr cr]
  have hka : Kept S0 w (((w.alloc (.cells #[.int .u8 3, .int .i64 (a : Int)] 25)).alloc (.cells #[.string s1, .string s2, .int .u8 k, .int .u32 fi, .int .u8 wl, .int .u32 wn, .int .u32 wx, .bool wb, .int .u32 mn, .int .u32 mx, .bool mb, .int .u8 gt, .bool gm] 35)).alloc (.cells #[.slice P mp cp, .slice R mr cr] 38)) := (((Kept.refl S0 w).alloc _).alloc _).alloc _
  have hba := hka.blk hb (fun x => x)
  have hkb := hka.alloc (.cells #[.int .u8 0, .bool false] 33)
  have HO := Lib.hid (hown.kept hkb (fun _ _ x => x))
  have HBA := Lib.hid hba
  have HB2 := Lib.hid (hkb.blk hb (fun x => x))
  have HX := Lib.hid hx
  have HK := Lib.hid hkb
  have HF0 := Lib.hid f0
  have HF1 := Lib.hid f1
  have HF2 := Lib.hid f2
  have HF3 := Lib.hid f3
  have HF4 := Lib.hid f4
  clear f0 f1 f2 f3 f4
  have HX2 := Lib.hid (hx.kept ((Kept.refl S0 _).alloc (.cells #[.int .u8 0, .bool false] 33)))
  have HZ := Lib.hid (Blk.new (((w.alloc (.cells #[.int .u8 3, .int .i64 (a : Int)] 25)).alloc (.cells #[.string s1, .string s2, .int .u8 k, .int .u32 fi, .int .u8 wl, .int .u32 wn, .int .u32 wx, .bool wb, .int .u32 mn, .int .u32 mx, .bool mb, .int .u8 gt, .bool gm] 35)).alloc (.cells #[.slice P mp cp, .slice R mr cr] 38)) 33 #[.int .u8 0, .bool false])
  have HSZ := Lib.hid (show (((w.alloc (.cells #[.int .u8 3, .int .i64 (a : Int)] 25)).alloc (.cells #[.string s1, .string s2, .int .u8 k, .int .u32 fi, .int .u8 wl, .int .u32 wn, .int .u32 wx, .bool wb, .int .u32 mn, .int .u32 mx, .bool mb, .int .u8 gt, .bool gm] 35)).alloc (.cells #[.slice P mp cp, .slice R mr cr] 38)).heap.size = w.heap.size + 3 by simp)
  clear hb hba hx hka hown hkb
  go_enter Tryz.func10, Tryz.ntmps10
  go_wp2_with fail
  generalize (((w.alloc (.cells #[.int .u8 3, .int .i64 (a : Int)] 25)).alloc (.cells #[.string s1, .string s2, .int .u8 k, .int .u32 fi, .int .u8 wl, .int .u32 wn, .int .u32 wx, .bool wb, .int .u32 mn, .int .u32 mx, .bool mb, .int .u8 gt, .bool gm] 35)).alloc (.cells #[.slice P mp cp, .slice R mr cr] 38)) = wa at *
  generalize hbx : w.heap.size = bx at *
  have c0 : wa.cell? ⟨sb, 0, none⟩ = some (.bool true) := HBA.out.cell 0
  refine (off_made _ _ c0).mono ?_
  rintro e w1 ⟨rfl, rfl⟩
  have e0 : wa.cell? ⟨bx, 0, none⟩ = some (.int .u8 3) := HX.out.e.cell 0
  have e1 : (wa.alloc (.cells #[.int .u8 0, .bool false] 33)).cell? ⟨bx, 1, none⟩ = some (.int .i64 (a : Int)) := HX2.out.e.cell 1
  clear c0
  go_wp2_with fail
  clear e0 e1
  refine (getglob_in a gt0 gm0 t lo hi HB2.out HO.out hn ha HF0.out HF1.out HF2.out HF3.out HF4.out).mono ?_
  rintro e w3 ⟨rfl, hk3⟩
  generalize hxs : wa.heap.size = xs at *
  have HK3 := Lib.hid (HK.out.then0 hk3)
  have hz3 := hk3.blk HZ.out (fun x => x)
  have hx3 := HX2.out.kept hk3
  clear hk3
  have f0 := hz3.frozen 0
  have g0 : w3.cell? ⟨xs, 0, none⟩ = some (.int .u8 0) := hz3.cell 0
  have f1 := hz3.frozen 1
  have g1 : w3.cell? ⟨xs, 1, none⟩ = some (.bool false) := hz3.cell 1
  have hk4 := (((Kept.refl (S1 (xs)) w3).setCell (p := ⟨xs, 0, none⟩) (.inl rfl) (.int .u8 gt0)).setCell (p := ⟨xs, 1, none⟩) (.inl rfl) (.bool gm0))
  have hz4 : Blk ((w3.setCell ⟨xs, 0, none⟩ (.int .u8 gt0)).setCell ⟨xs, 1, none⟩ (.bool gm0)) xs 33 #[.int .u8 gt0, .bool gm0] := ((hz3.set_ 0 (.int .u8 gt0)).set_ 1 (.bool gm0))
  have hxne : xs = bx + 3 := by have := HSZ.out; omega
  have he4 := hk4.blk hx3.e (fun e => by have e' : bx = xs := e; omega)
  have hi4 := hk4.blk hx3.i (fun e => by have e' : bx + 1 = xs := e; omega)
  have HKK := Lib.hid (HK3.out.trans_ hk4 (fun i e => .inr (by have e' : i = xs := e; omega)))
  have s0 : ((w3.setCell ⟨xs, 0, none⟩ (.int .u8 gt0)).setCell ⟨xs, 1, none⟩ (.bool gm0)).cell? ⟨xs, 0, none⟩ = some (.int .u8 gt0) := hz4.cell 0
  have s1 : ((w3.setCell ⟨xs, 0, none⟩ (.int .u8 gt0)).setCell ⟨xs, 1, none⟩ (.bool gm0)).cell? ⟨xs, 1, none⟩ = some (.bool gm0) := hz4.cell 1
  have t0 : ((w3.setCell ⟨xs, 0, none⟩ (.int .u8 gt0)).setCell ⟨xs, 1, none⟩ (.bool gm0)).cell? ⟨bx + 1, 11, none⟩ = some (.int .u8 gt) := hi4.cell 11
  have t1 : ((w3.setCell ⟨xs, 0, none⟩ (.int .u8 gt0)).setCell ⟨xs, 1, none⟩ (.bool gm0)).cell? ⟨bx + 1, 11 + 1, none⟩ = some (.bool gm) := hi4.cell 12
  have t2 : ((w3.setCell ⟨xs, 0, none⟩ (.int .u8 gt0)).setCell ⟨xs, 1, none⟩ (.bool gm0)).cell? ⟨bx + 1, 2, none⟩ = some (.int .u8 k) := hi4.cell 2
  have t3 : ((w3.setCell ⟨xs, 0, none⟩ (.int .u8 gt0)).setCell ⟨xs, 1, none⟩ (.bool gm0)).cell? ⟨bx, 0, none⟩ = some (.int .u8 3) := he4.cell 0
  clear hxne hxs hz3 hx3 hk4 hz4 he4 hi4 HX HX2 HZ HO HB2 HBA
  cases hk : ((3 : Int) == k)
  all_goals
    have hk1 : ((3 : Int) != k) = !((3 : Int) == k) := rfl
    rw [hk] at hk1
    have HKQ := Lib.hid hk
    by_cases hg : gt0 = gt
    · subst hg
      clear hk
      cases gm0 <;> cases gm <;> (go_wp2_with fail; go_ret; exact ⟨ret_int (by rw [HKQ.out]; simp [fitR]), HKK.out⟩)
    · have hg1 : (gt0 = gt) = False := eq_false hg
      have hg2 : (gt0 == gt) = false := beq_eq_false_iff_ne.2 hg
      have HG := Lib.hid hg2
      clear hg hk
      go_wp2_with fail
      go_ret
      exact ⟨ret_int (by rw [HKQ.out, HG.out]; simp [fitR]), HKK.out⟩
end
end Go.Proofs.YtlnkdnmeikpckaaGreat
namespace Go.Proofs.YtlnkdnmeikpckaaGreat
open Go.RowKit
set_option maxRecDepth 100000
set_option maxHeartbeats 1600000 in
theorem types_any (A B : Option Addr) (n m c d : Nat) (v u : Nat → UInt8) (w : World) (hA : Sl w A n (byteV v)) (hB : Sl w B m (byteV u)) (hn : n ≤ 9223372036854775806) (hm : m ≤ 9223372036854775806) :
    Calls Tryz.prog 42 #[.slice A n c, .slice B m d] w fun e w' => e = .returned (.bool (eqT n m v u)) ∧ Kept S0 w w' := by
  by_cases hnm : n = m
  · subst hnm
    have e0 : (((n : Nat) : Int) != (n : Int)) = false := by simp
    have HA := Lib.hid hA
    have HB := Lib.hid hB
    clear hA hB
    go_enter Tryz.func42, Tryz.ntmps42
    go_wp2_with fail
    go_loopw [5] (fun i wr => ∃ k : Nat, k ≤ n ∧ i = .int .i64 (k : Int) ∧ (∀ j, j < k → v j = u j) ∧ ∃ q, wr = w.drewN q) (fun i _ => n - (intOf i).toNat)
    case atStart => exact ⟨0, by omega, rfl, fun j hj => absurd hj (by omega), 0, rfl⟩
    case round =>
      obtain ⟨k, hk, rfl, heq, q, rfl⟩ := hrel
      by_cases hlt : k < n
      · obtain ⟨b1, o1, hAe, h1⟩ := HA.out (by omega)
        obtain ⟨b2, o2, hBe, h2⟩ := HB.out (by omega)
        subst hAe hBe
        have d0 : w.cell? ⟨b1, o1 + k, none⟩ = some (.int .u8 ((v k).toNat : Int)) := h1 k hlt
        have f0 : w.cell? ⟨b2, o2 + k, none⟩ = some (.int .u8 ((u k).toNat : Int)) := h2 k hlt
        have HE := Lib.hid heq
        clear h1 h2 heq
        by_cases hvu : v k = u k
        · have HV := Lib.hid hvu
          rw [hvu] at d0
          have e1 : (((u k).toNat : Int) != ((u k).toNat : Int)) = false := by simp
          clear hvu
          go_wp2_with fail
          go_quiet (fail)
          go_wp2_with fail
          go_roundw
          case rel => exact ⟨k + 1, by omega, by go_num, fun j hj => by
            rcases Nat.lt_or_ge j k with h | h
            · exact HE.out j h
            · obtain rfl : j = k := by omega
              exact HV.out, _, rfl⟩
          case measure => simp [intOf]; omega
        · have hne : ((v k).toNat : Int) ≠ ((u k).toNat : Int) := fun e => hvu (UInt8.toNat_inj.1 (by omega))
          have e1 : (((v k).toNat : Int) != ((u k).toNat : Int)) = true := bne_iff_ne.2 hne
          have HB := Lib.hid (eqT_at (m := n) hlt hvu)
          clear hvu hne
          go_wp2_with fail
          go_quiet (fail)
          go_wp2_with fail
          go_ret
          exact ⟨ret_bool (by rw [HB.out]), ((Kept.refl S0 w).drewN _).drewN _⟩
      · obtain rfl : k = n := by omega
        have HB2 := Lib.hid (eqT_true heq)
        clear heq
        go_wp2_with fail
        go_ret
        exact ⟨ret_bool (by rw [HB2.out]), (Kept.refl S0 w).drewN q⟩
  · have hne : ((n : Nat) : Int) ≠ (m : Int) := by omega
    have e1 : (((n : Nat) : Int) != (m : Int)) = true := bne_iff_ne.2 hne
    have HB := Lib.hid (eqT_ne (v := v) (u := u) hnm)
    clear hnm hne hA hB
    go_enter Tryz.func42, Tryz.ntmps42
    go_wp2_with fail
    go_ret
    exact ⟨ret_bool (by rw [HB.out]), Kept.refl _ _⟩
theorem func_any (A B C D : Option Addr) (n1 n2 n3 n4 c1 c2 c3 c4 : Nat) (v1 v2 v3 v4 : Nat → UInt8) (w : World) (h1 : TSl w A n1 c1 v1) (h2 : TSl w B n2 c2 v2) (h3 : TSl w C n3 c3 v3) (h4 : TSl w D n4 c4 v4) :
    Calls Tryz.prog 15 #[.agg #[.slice A n1 c1, .slice B n2 c2], .agg #[.slice C n3 c3, .slice D n4 c4]] w fun e w' => e = .returned (.bool (eqT n1 n3 v1 v3 && eqT n2 n4 v2 v4)) ∧ Kept S0 w w' := by
  have hka : Kept S0 w ((w.alloc (.cells #[.slice A n1 c1, .slice B n2 c2] 38)).alloc (.cells #[.slice C n3 c3, .slice D n4 c4] 38)) := ((Kept.refl S0 w).alloc _).alloc _
  have hB1 := (Blk.new w 38 #[.slice A n1 c1, .slice B n2 c2]).alloc (.cells #[.slice C n3 c3, .slice D n4 c4] 38)
  have hB2 := Blk.new1 w (.cells #[.slice A n1 c1, .slice B n2 c2] 38) 38 #[.slice C n3 c3, .slice D n4 c4]
  have a0 := hB1.cell 0
  have b0 := hB2.cell 0
  have HB1 := Lib.hid hB1
  have HB2 := Lib.hid hB2
  have H1 := Lib.hid (h1.kept hka)
  have H2 := Lib.hid (h2.kept hka)
  have H3 := Lib.hid (h3.kept hka)
  have H4 := Lib.hid (h4.kept hka)
  have HK := Lib.hid hka
  clear hB1 hB2 h1 h2 h3 h4 hka
  go_enter Tryz.func15, Tryz.ntmps15
  go_wp2_with fail
  refine (types_any A C n1 n3 c1 c3 v1 v3 _ H1.out.sl H3.out.sl (by have := H1.out.sz; omega) (by have := H3.out.sz; omega)).mono ?_
  rintro e w2 ⟨rfl, hk2⟩
  have HK2 := Lib.hid (HK.out.then0 hk2)
  cases he : eqT n1 n3 v1 v3 with
  | false =>
    have HE := Lib.hid he
    clear hk2 a0 b0 he
    go_wp2_with fail
    go_ret
    exact ⟨ret_bool (by rw [HE.out]; rfl), HK2.out⟩
  | true =>
    have a1 := (hk2.blk HB1.out (fun x => x)).cell 1
    have b1 := (hk2.blk HB2.out (fun x => x)).cell 1
    have HS2 := Lib.hid (H2.out.kept hk2)
    have HS4 := Lib.hid (H4.out.kept hk2)
    have HE := Lib.hid he
    clear hk2 a0 b0 he
    go_wp2_with fail
    refine (types_any B D n2 n4 c2 c4 v2 v4 _ HS2.out.sl HS4.out.sl (by have := HS2.out.sz; omega) (by have := HS4.out.sz; omega)).mono ?_
    rintro e w3 ⟨rfl, hk3⟩
    have HK3 := Lib.hid (HK2.out.then0 hk3)
    clear hk3 a1 b1
    go_wp2_with fail
    go_ret
    exact ⟨ret_bool (by rw [HE.out]; rfl), HK3.out⟩
end Go.Proofs.YtlnkdnmeikpckaaGreat
namespace Go.Proofs.YtlnkdnmeikpckaaGreat
open Go.RowKit
set_option maxRecDepth 100000
section
variable {lab lab' : Nat → Nat} {w w' : World} {A : Option Addr} {n c sz bytes : Nat} {F : Nat → Value} {S : Nat → Prop}
theorem SlL.sl (h : SlL lab w A n F) : Sl w A n F := fun hn => let ⟨b, o, e, _, hc⟩ := h hn; ⟨b, o, e, hc⟩
theorem LstL.tsl {v : Nat → UInt8} (h : LstL lab w 1 1 A n c (byteV v)) : TSl w A n c v := ⟨by have := h.sl.sl; rwa [Nat.mul_one] at this, h.z, by have := h.sm; omega⟩
end
end Go.Proofs.YtlnkdnmeikpckaaGreat
