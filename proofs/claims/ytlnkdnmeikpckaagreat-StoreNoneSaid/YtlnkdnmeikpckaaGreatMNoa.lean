/- Whatever the input, StoreNone returns true and its arguments read as they did. No condition. -/
import Derived.Test.YtlnkdnmeikpckaaGreatMSta
import Derived.Test.YtlnkdnmeikpckaaGreatMStb
import Derived.Test.YtlnkdnmeikpckaaGreatMStc
import Derived.Test.YtlnkdnmeikpckaaGreatMSte
import Derived.Test.YtlnkdnmeikpckaaGreatMStf
import Derived.Test.YtlnkdnmeikpckaaGreatMStg
import Derived.Test.YtlnkdnmeikpckaaGreatMSth
import Derived.Test.YtlnkdnmeikpckaaGreatMStj
import Derived.Test.YtlnkdnmeikpckaaGreatMStl
import Derived.Test.YtlnkdnmeikpckaaGreatMStm
import Derived.WalkKit
import Derived.WalkSpells
import Derived.WalkLawsBesides
import Derived.BigQuiet
import Derived.Deep.QuietTactic
import Derived.Deep.OwnRows
import Derived.Deep.Draws
import Derived.Laws.OwnMore
import Derived.Laws.Rows
import Derived.Lib.Hide
import Derived.StillTailTactics
import Derived.Test.YtlnkdnmeikpckaaGreatRows
import Derived.ProofKit
import Derived.SizedLaws
import Derived.Lib.SmallJoins
import Derived.Deep.DeepCutAuto
import Derived.Outline
namespace Go.Proofs.YtlnkdnmeikpckaaGreat
open Go.RowKit
set_option maxRecDepth 100000
def S2 (g h : Nat) : Nat → Prop := fun k => k = g ∨ k = h
section
variable {S S' : Nat → Prop} {a w w' : World}
theorem Kept.below (h : Kept S a w) {B : Nat} (hB : B ≤ a.heap.size) (hs : ∀ k, S k → B ≤ k) : Below B a w :=
  ⟨h.os, h.tape, h.output, h.size, fun k hk => h.block k (by omega) (fun x => by have := hs k x; omega)⟩
theorem Kept.below0 (h : Kept S0 a w) : Below a.heap.size a w := h.below (Nat.le_refl _) (fun _ x => x.elim)
end
end Go.Proofs.YtlnkdnmeikpckaaGreat
namespace Go.Proofs.YtlnkdnmeikpckaaGreat
open Go.RowKit
set_option maxRecDepth 100000
section
variable {w : World} {sb n c k : Nat}
set_option maxHeartbeats 800000 in
theorem at_INST_in (a g : Nat) (hc : w.cell? ⟨sb, k, none⟩ = some (.slice (some ⟨g, 0, none⟩) n c)) (_hn : n ≤ 65536) (ha : a < n) :
    Calls Tryz.prog 76 #[.pointer (some ⟨sb, k, none⟩), .int .i64 (a : Int)] w fun e w' => e = .returned (.pointer (some ⟨g, a, none⟩)) ∧ w = w' := by
  have h1 : ((a : Int) < 0) = False := eq_false (by omega)
  have h2 : decide ((n : Int) ≤ (a : Int)) = false := decide_eq_false (by omega)
  go_enter Tryz.func76, Tryz.ntmps76
  go_wp2_with fail
  go_ret
  exact ⟨by simp, rfl⟩
set_option maxHeartbeats 800000 in
theorem at_INST_out (a : Int) (A : Option Addr) (hc : w.cell? ⟨sb, k, none⟩ = some (.slice A n c)) (_hn : n ≤ 65536) (ha : a < 0 ∨ (n : Int) ≤ a) :
    Calls Tryz.prog 76 #[.pointer (some ⟨sb, k, none⟩), .int .i64 a] w fun e w' => e = .returned (.pointer none) ∧ w = w' := by
  by_cases h0 : a < 0
  · have h1 : decide (a < 0) = true := decide_eq_true h0
    clear ha
    go_enter Tryz.func76, Tryz.ntmps76
    go_wp2_with fail
    go_ret
    exact ⟨rfl, rfl⟩
  · have h1 : decide (a < 0) = false := decide_eq_false h0
    have h2 : decide ((n : Int) ≤ a) = true := decide_eq_true (by omega)
    clear ha h0
    go_enter Tryz.func76, Tryz.ntmps76
    go_wp2_with fail
    go_ret
    exact ⟨rfl, rfl⟩
end
end Go.Proofs.YtlnkdnmeikpckaaGreat
namespace Go.Proofs.YtlnkdnmeikpckaaGreat
open Go.RowKit
set_option maxRecDepth 100000
section
variable {w : World} {sb B n : Nat} {fl tl ml gl el dl il : Value} {F : Nat → Value}
set_option maxRecDepth 100000 in
set_option maxHeartbeats 1600000 in
theorem getelem_in (a : Nat) (t : Int) (A : Option Addr) (m c : Nat) (v : Nat → V3) (hb : Blk w sb 132 (stCells fl tl ml gl el dl il)) (hown : Own w B 155 2 AnyV el n F) (hn : n ≤ 65536) (ha : a < n) (hF0 : F (a * 2) = .int .u8 t) (hF1 : F (a * 2 + 1) = .slice A m c) (hA : LSl w 3 24 A m c (vcell v)) :
    Calls Tryz.prog 24 #[.pointer (some ⟨sb, 0, none⟩), .int .i64 (a : Int)] w fun e w' => ∃ y, e = .returned (.tuple #[y, .int .i64 0]) ∧ Own w' w.heap.size 65 3 AnyV y m (vcell v) ∧ Kept S0 w w' := by
  obtain ⟨g, fc, hfl, _, _⟩ := hown.is_some (by omega)
  subst hfl
  have c0 : w.cell? ⟨sb, 0, none⟩ = some (.bool true) := hb.cell 0
  have c1 : w.cell? ⟨sb, 5, none⟩ = some (.slice (some ⟨g, 0, none⟩) n fc) := hb.cell 5
  have g0 := (hown.rowcell (j := a * 2) (by omega)).trans (congrArg some hF0)
  have g1 := (hown.rowcell (j := a * 2 + 1) (by omega)).trans (congrArg some hF1)
  have HA := Lib.hid hA
  clear hb hown hA hF0 hF1
  go_enter Tryz.func24, Tryz.ntmps24
  go_wp2_with fail
  refine (off_made _ _ c0).mono ?_
  rintro e w1 ⟨rfl, rfl⟩
  go_wp2_with fail
  refine (at_ELEM_in a g c1 hn ha).mono ?_
  rintro e w1 ⟨rfl, rfl⟩
  go_wp2_with fail
  refine (clone_v A m c v w HA.out.sl HA.out.z HA.out.sm).mono ?_
  rintro e w2 ⟨y, rfl, hy, hk2⟩
  obtain ⟨yA, yc, hye, _, _, _⟩ := hy.out
  subst hye
  have HY := Lib.hid hy
  have HK := Lib.hid hk2
  clear hy hk2 c0 c1 g0 g1
  go_wp2_with fail
  go_ret2
  exact ⟨_, rfl, HY.out, HK.out⟩
set_option maxRecDepth 100000 in
set_option maxHeartbeats 1600000 in
theorem getelem_out (a : Int) (hb : Blk w sb 132 (stCells fl tl ml gl el dl il)) (hown : Own w B 155 2 AnyV el n F) (hn : n ≤ 65536) (ha : a < 0 ∨ (n : Int) ≤ a) :
    Calls Tryz.prog 24 #[.pointer (some ⟨sb, 0, none⟩), .int .i64 a] w fun e w' => e = .returned (.tuple #[.slice none 0 0, .int .i64 11]) ∧ w = w' := by
  obtain ⟨lA, lc, hlv, _, _, _⟩ := hown.out
  subst hlv
  have c0 : w.cell? ⟨sb, 0, none⟩ = some (.bool true) := hb.cell 0
  have c1 : w.cell? ⟨sb, 5, none⟩ = some (.slice lA n lc) := hb.cell 5
  clear hb hown
  go_enter Tryz.func24, Tryz.ntmps24
  go_wp2_with fail
  refine (off_made _ _ c0).mono ?_
  rintro e w1 ⟨rfl, rfl⟩
  go_wp2_with fail
  refine (at_ELEM_out a lA c1 hn ha).mono ?_
  rintro e w1 ⟨rfl, rfl⟩
  go_wp2_with fail
  go_ret2
  exact ⟨rfl, rfl⟩
set_option maxRecDepth 100000 in
set_option maxHeartbeats 1600000 in
theorem getdata_in (a : Nat) (A : Option Addr) (m c : Nat) (v : Nat → UInt8) (hb : Blk w sb 132 (stCells fl tl ml gl el dl il)) (hown : Own w B 71 1 AnyV dl n F) (hn : n ≤ 65536) (ha : a < n) (hF : F a = .slice A m c) (hA : LSl w 1 1 A m c (byteV v)) :
    Calls Tryz.prog 25 #[.pointer (some ⟨sb, 0, none⟩), .int .i64 (a : Int)] w fun e w' => ∃ y, e = .returned (.tuple #[y, .int .i64 0]) ∧ Own w' w.heap.size 5 1 IsByte y m (byteV v) ∧ Kept S0 w w' := by
  obtain ⟨g, fc, hfl, _, _⟩ := hown.is_some (by omega)
  subst hfl
  have c0 : w.cell? ⟨sb, 0, none⟩ = some (.bool true) := hb.cell 0
  have c1 : w.cell? ⟨sb, 6, none⟩ = some (.slice (some ⟨g, 0, none⟩) n fc) := hb.cell 6
  have g0 := (hown.rowcell (j := a) (by omega)).trans (congrArg some hF)
  have HA := Lib.hid hA
  clear hb hown hA hF
  go_enter Tryz.func25, Tryz.ntmps25
  go_wp2_with fail
  refine (off_made _ _ c0).mono ?_
  rintro e w1 ⟨rfl, rfl⟩
  go_wp2_with fail
  refine (at_DATA_in a g c1 hn ha).mono ?_
  rintro e w1 ⟨rfl, rfl⟩
  go_wp2_with fail
  refine (clone_b A m c v w HA.out.sl HA.out.z HA.out.sm).mono ?_
  rintro e w2 ⟨y, rfl, hy, hk2⟩
  obtain ⟨yA, yc, hye, _, _, _⟩ := hy.out
  subst hye
  have HY := Lib.hid hy
  have HK := Lib.hid hk2
  clear hy hk2 c0 c1 g0
  go_wp2_with fail
  go_ret2
  exact ⟨_, rfl, HY.out, HK.out⟩
end
end Go.Proofs.YtlnkdnmeikpckaaGreat
namespace Go.Proofs.YtlnkdnmeikpckaaGreat
open Go.RowKit
set_option maxRecDepth 100000
section
variable {w : World} {sb B n : Nat} {fl tl ml gl el dl il : Value} {F : Nat → Value}
set_option maxHeartbeats 1600000 in
theorem getinst_in (a : Nat) (p : Option Addr) (hb : Blk w sb 132 (stCells fl tl ml gl el dl il)) (hown : Own w B 95 1 AnyV il n F) (hn : n ≤ 65536) (ha : a < n) (hF : F a = .pointer p) :
    Calls Tryz.prog 26 #[.pointer (some ⟨sb, 0, none⟩), .int .i64 (a : Int)] w fun e w' => e = .returned (.tuple #[.pointer p, .int .i64 0]) ∧ w = w' := by
  obtain ⟨g, fc, hfl, _, _⟩ := hown.is_some (by omega)
  subst hfl
  have c0 : w.cell? ⟨sb, 0, none⟩ = some (.bool true) := hb.cell 0
  have c1 : w.cell? ⟨sb, 7, none⟩ = some (.slice (some ⟨g, 0, none⟩) n fc) := hb.cell 7
  have g0 := (hown.rowcell (j := a) (by omega)).trans (congrArg some hF)
  clear hb hown hF
  go_enter Tryz.func26, Tryz.ntmps26
  go_wp2_with fail
  refine (off_made _ _ c0).mono ?_
  rintro e w1 ⟨rfl, rfl⟩
  go_wp2_with fail
  refine (at_INST_in a g c1 hn ha).mono ?_
  rintro e w1 ⟨rfl, rfl⟩
  go_wp2_with fail
  go_ret2
  exact ⟨rfl, rfl⟩
set_option maxHeartbeats 1600000 in
theorem getinst_out (a : Int) (hb : Blk w sb 132 (stCells fl tl ml gl el dl il)) (hown : Own w B 95 1 AnyV il n F) (hn : n ≤ 65536) (ha : a < 0 ∨ (n : Int) ≤ a) :
    Calls Tryz.prog 26 #[.pointer (some ⟨sb, 0, none⟩), .int .i64 a] w fun e w' => e = .returned (.tuple #[.pointer none, .int .i64 11]) ∧ w = w' := by
  obtain ⟨lA, lc, hlv, _, _, _⟩ := hown.out
  subst hlv
  have c0 : w.cell? ⟨sb, 0, none⟩ = some (.bool true) := hb.cell 0
  have c1 : w.cell? ⟨sb, 7, none⟩ = some (.slice lA n lc) := hb.cell 7
  clear hb hown
  go_enter Tryz.func26, Tryz.ntmps26
  go_wp2_with fail
  refine (off_made _ _ c0).mono ?_
  rintro e w1 ⟨rfl, rfl⟩
  go_wp2_with fail
  refine (at_INST_out a lA c1 hn ha).mono ?_
  rintro e w1 ⟨rfl, rfl⟩
  clear ha
  go_wp2_with fail
  go_ret2
  exact ⟨rfl, rfl⟩
set_option maxHeartbeats 1600000 in
theorem getdata_out (a : Int) (hb : Blk w sb 132 (stCells fl tl ml gl el dl il)) (hown : Own w B 71 1 AnyV dl n F) (hn : n ≤ 65536) (ha : a < 0 ∨ (n : Int) ≤ a) :
    Calls Tryz.prog 25 #[.pointer (some ⟨sb, 0, none⟩), .int .i64 a] w fun e w' => e = .returned (.tuple #[.slice none 0 0, .int .i64 11]) ∧ w = w' := by
  obtain ⟨lA, lc, hlv, _, _, _⟩ := hown.out
  subst hlv
  have c0 : w.cell? ⟨sb, 0, none⟩ = some (.bool true) := hb.cell 0
  have c1 : w.cell? ⟨sb, 6, none⟩ = some (.slice lA n lc) := hb.cell 6
  clear hb hown
  go_enter Tryz.func25, Tryz.ntmps25
  go_wp2_with fail
  refine (off_made _ _ c0).mono ?_
  rintro e w1 ⟨rfl, rfl⟩
  go_wp2_with fail
  refine (at_DATA_out a lA c1 hn ha).mono ?_
  rintro e w1 ⟨rfl, rfl⟩
  clear ha
  go_wp2_with fail
  go_ret2
  exact ⟨rfl, rfl⟩
set_option maxRecDepth 100000 in
set_option maxHeartbeats 3200000 in
theorem getglob_in (a : Nat) (gt : Int) (gm : Bool) (t lo hi : Int) (hb : Blk w sb 132 (stCells fl tl ml gl el dl il)) (hown : Own w B 149 5 AnyV gl n F) (hn : n ≤ 65536) (ha : a < n) (f0 : F (a * 5) = .int .u8 gt) (f1 : F (a * 5 + 1) = .bool gm) (f2 : F (a * 5 + 2) = .int .u8 t) (f3 : F (a * 5 + 3) = .int .u64 lo) (f4 : F (a * 5 + 4) = .int .u64 hi) :
    Calls Tryz.prog 20 #[.pointer (some ⟨sb, 0, none⟩), .int .i64 (a : Int)] w fun e w' => e = .returned (.tuple #[.agg #[.int .u8 gt, .bool gm], .agg #[.int .u8 t, .int .u64 lo, .int .u64 hi], .int .i64 0]) ∧ Kept S0 w w' := by
  obtain ⟨g, fc, hfl, _, _⟩ := hown.is_some (by omega)
  subst hfl
  have hka : Kept S0 w ((w.alloc (.cells #[.int .u8 0, .bool false] 33)).alloc (.cells #[.int .u8 0, .int .u64 0, .int .u64 0] 65)) := ((Kept.refl S0 w).alloc _).alloc _
  have hb1 := hka.blk hb (fun x => x)
  have ho1 := hown.kept hka (fun _ _ x => x)
  have c0 : ((w.alloc (.cells #[.int .u8 0, .bool false] 33)).alloc (.cells #[.int .u8 0, .int .u64 0, .int .u64 0] 65)).cell? ⟨sb, 0, none⟩ = some (.bool true) := hb1.cell 0
  have c1 : ((w.alloc (.cells #[.int .u8 0, .bool false] 33)).alloc (.cells #[.int .u8 0, .int .u64 0, .int .u64 0] 65)).cell? ⟨sb, 4, none⟩ = some (.slice (some ⟨g, 0, none⟩) n fc) := hb1.cell 4
  have g0 := (ho1.rowcell (j := a * 5) (by omega)).trans (congrArg some f0)
  have g1 := (ho1.rowcell (j := a * 5 + 1) (by omega)).trans (congrArg some f1)
  have g2 := (ho1.rowcell (j := a * 5 + 2) (by omega)).trans (congrArg some f2)
  have g3 := (ho1.rowcell (j := a * 5 + 3) (by omega)).trans (congrArg some f3)
  have g4 := (ho1.rowcell (j := a * 5 + 4) (by omega)).trans (congrArg some f4)
  have HB0 := Lib.hid ((Blk.new w 33 #[.int .u8 0, .bool false]).alloc (.cells #[.int .u8 0, .int .u64 0, .int .u64 0] 65))
  have HB1 := Lib.hid (Blk.new1 w (.cells #[.int .u8 0, .bool false] 33) 65 #[.int .u8 0, .int .u64 0, .int .u64 0])
  have HG := Lib.hid (show g < w.heap.size from (hown.lt g rfl).2)
  have HK := Lib.hid hka
  clear hb hown hb1 ho1 hka f0 f1 f2 f3 f4
  go_enter Tryz.func20, Tryz.ntmps20
  go_wp2_with fail
  refine (off_made _ _ c0).mono ?_
  rintro e w1 ⟨rfl, rfl⟩
  go_wp2_with fail
  refine (at_GLOB_in a g c1 hn ha).mono ?_
  rintro e w1 ⟨rfl, rfl⟩
  clear c0 c1
  go_wp2_with fail
  generalize (w.alloc (.cells #[.int .u8 0, .bool false] 33)).alloc (.cells #[.int .u8 0, .int .u64 0, .int .u64 0] 65) = w1 at *
  generalize hbx : w.heap.size = bx at *
  have hS : w1.drew.cell? ⟨g, a * 5, none⟩ = some (.int .u8 gt) ∧ w1.drew.cell? ⟨g, a * 5 + 1, none⟩ = some (.bool gm) ∧ w1.drew.cell? ⟨g, a * 5 + 2, none⟩ = some (.int .u8 t) ∧ w1.drew.cell? ⟨g, a * 5 + 2 + 1, none⟩ = some (.int .u64 lo) ∧ w1.drew.cell? ⟨g, a * 5 + 2 + 2, none⟩ = some (.int .u64 hi) := ⟨g0, g1, g2, g3, g4⟩
  refine wp_region_R (fun w' => w'.cell? ⟨g, a * 5, none⟩ = some (.int .u8 gt) ∧ w'.cell? ⟨g, a * 5 + 1, none⟩ = some (.bool gm) ∧ w'.cell? ⟨g, a * 5 + 2, none⟩ = some (.int .u8 t) ∧ w'.cell? ⟨g, a * 5 + 2 + 1, none⟩ = some (.int .u64 lo) ∧ w'.cell? ⟨g, a * 5 + 2 + 2, none⟩ = some (.int .u64 hi)) [] (by kernel_rfl) ?_
  have hB0 := HB0.out.drew
  have hB1 := HB1.out.drew
  have hgx := HG.out
  have HKD := Lib.hid HK.out.drew
  generalize w1.drew = w2 at *
  clear g0 g1 g2 g3 g4 HB0 HB1 HK
  (first | (refine tkR 0 (v := ?_) rfl hS ⟨by rfl, ?_⟩ ?_; rotate_left; intro w h; (try dsimp only at h); first | (go_simp; done) | (go_simp; with_reducible rfl)) | refine skR 0 rfl (fun _ => hS) (by rfl) ?_); simp only [zq1, zq2, Act.put, zq4, zq5, zq6]
  (first | (refine tkR 1 (v := ?_) rfl hS ⟨by rfl, ?_⟩ ?_; rotate_left; intro w h; (try dsimp only at h); first | (go_simp; done) | (go_simp; with_reducible rfl)) | refine skR 1 rfl (fun _ => hS) (by rfl) ?_); simp only [zq1, zq2, zq3, Act.put, zq4, zq5, zq6]
  (first | (refine tkR 2 (v := ?_) rfl hS ⟨by rfl, ?_⟩ ?_; rotate_left; intro w h; (try dsimp only at h); first | (go_simp; done) | (go_simp; with_reducible rfl)) | refine skR 2 rfl (fun _ => hS) (by rfl) ?_); simp only [zq1, zq2, zq3, Act.put, zq4, zq5, zq6]
  (first | (refine tkR 3 (v := ?_) rfl hS ⟨by rfl, ?_⟩ ?_; rotate_left; intro w h; (try dsimp only at h); first | (go_simp; done) | (go_simp; with_reducible rfl)) | refine skR 3 rfl (fun _ => hS) (by rfl) ?_); simp only [zq1, zq2, zq3, Act.put, zq4, zq5, zq6]
  (first | (refine tkR 4 (v := ?_) rfl hS ⟨by rfl, ?_⟩ ?_; rotate_left; intro w h; (try dsimp only at h); first | (go_simp; done) | (go_simp; with_reducible rfl)) | refine skR 4 rfl (fun _ => hS) (by rfl) ?_); simp only [zq1, zq2, zq3, Act.put, zq4, zq5, zq6]
  (first | (refine tkR 5 (v := ?_) rfl hS ⟨by rfl, ?_⟩ ?_; rotate_left; intro w h; (try dsimp only at h); first | (go_simp; done) | (go_simp; with_reducible rfl)) | refine skR 5 rfl (fun _ => hS) (by rfl) ?_); simp only [zq1, zq2, zq3, Act.put, zq4, zq5, zq6]
  (first | (refine tkR 6 (v := ?_) rfl hS ⟨by rfl, ?_⟩ ?_; rotate_left; intro w h; (try dsimp only at h); first | (go_simp; done) | (go_simp; with_reducible rfl)) | refine skR 6 rfl (fun _ => hS) (by rfl) ?_); simp only [zq1, zq2, zq3, Act.put, zq4, zq5, zq6]
  (first | (refine tkR 7 (v := ?_) rfl hS ⟨by rfl, ?_⟩ ?_; rotate_left; intro w h; (try dsimp only at h); first | (go_simp; done) | (go_simp; with_reducible rfl)) | refine skR 7 rfl (fun _ => hS) (by rfl) ?_); simp only [zq1, zq2, zq3, Act.put, zq4, zq5, zq6]
  have q0 := hB0.cell 0
  have q1 := hB0.cell 1
  have q2 := hB0.frozen 0
  have q3 := hB0.frozen 1
  refine wpAnyR_one 8 rfl (by kernel_rfl) (fun K hK8 => ?_)
  go_simp
  have hs3 : Kept (S1 bx) w2 ((w2.setCell ⟨bx, 0, none⟩ (.int .u8 gt)).setCell ⟨bx, 1, none⟩ (.bool gm)) := ((Kept.refl (S1 bx) w2).setCell (p := ⟨bx, 0, none⟩) (.inl rfl) _).setCell (p := ⟨bx, 1, none⟩) (.inl rfl) _
  have hb3 : Blk ((w2.setCell ⟨bx, 0, none⟩ (.int .u8 gt)).setCell ⟨bx, 1, none⟩ (.bool gm)) bx 33 #[.int .u8 gt, .bool gm] := (hB0.set_ 0 (.int .u8 gt)).set_ 1 (.bool gm)
  have hv3 := hs3.blk hB1 (fun e => by have e' : bx + 1 = bx := e; omega)
  have hcell : ∀ j v, w2.cell? ⟨g, j, none⟩ = some v → ((w2.setCell ⟨bx, 0, none⟩ (.int .u8 gt)).setCell ⟨bx, 1, none⟩ (.bool gm)).cell? ⟨g, j, none⟩ = some v := fun j v h => (hs3.cell (p := ⟨g, j, none⟩) (World.block_lt_of_cell? _ _ h) (fun e => by have e' : g = bx := e; omega)).trans h
  refine hK8.out _ _ (fun _ => ⟨hcell _ _ hS.1, hcell _ _ hS.2.1, hcell _ _ hS.2.2.1, hcell _ _ hS.2.2.2.1, hcell _ _ hS.2.2.2.2⟩) ?_
  clear hK8 K
  have hS3 : ((w2.setCell ⟨bx, 0, none⟩ (.int .u8 gt)).setCell ⟨bx, 1, none⟩ (.bool gm)).cell? ⟨g, a * 5, none⟩ = some (.int .u8 gt) ∧ ((w2.setCell ⟨bx, 0, none⟩ (.int .u8 gt)).setCell ⟨bx, 1, none⟩ (.bool gm)).cell? ⟨g, a * 5 + 1, none⟩ = some (.bool gm) ∧ ((w2.setCell ⟨bx, 0, none⟩ (.int .u8 gt)).setCell ⟨bx, 1, none⟩ (.bool gm)).cell? ⟨g, a * 5 + 2, none⟩ = some (.int .u8 t) ∧ ((w2.setCell ⟨bx, 0, none⟩ (.int .u8 gt)).setCell ⟨bx, 1, none⟩ (.bool gm)).cell? ⟨g, a * 5 + 2 + 1, none⟩ = some (.int .u64 lo) ∧ ((w2.setCell ⟨bx, 0, none⟩ (.int .u8 gt)).setCell ⟨bx, 1, none⟩ (.bool gm)).cell? ⟨g, a * 5 + 2 + 2, none⟩ = some (.int .u64 hi) := ⟨hcell _ _ hS.1, hcell _ _ hS.2.1, hcell _ _ hS.2.2.1, hcell _ _ hS.2.2.2.1, hcell _ _ hS.2.2.2.2⟩
  have HK3 := Lib.hid (HKD.out.trans_ hs3 (fun i e => .inr (by have e' : i = bx := e; omega)))
  clear hcell hs3 hS q0 q1 q2 q3 hB0 hB1 HKD
  generalize (w2.setCell ⟨bx, 0, none⟩ (.int .u8 gt)).setCell ⟨bx, 1, none⟩ (.bool gm) = w3 at *
  have q0 := hv3.cell 0
  have q1 := hv3.cell 1
  have q2 := hv3.cell 2
  have r0 := hv3.frozen 0
  have r1 := hv3.frozen 1
  have r2 := hv3.frozen 2
  refine wpAnyR_one 9 rfl (by kernel_rfl) (fun K hK9 => ?_)
  go_simp
  have hs4 : Kept (S1 (bx + 1)) w3 (((w3.setCell ⟨bx + 1, 0, none⟩ (.int .u8 t)).setCell ⟨bx + 1, 1, none⟩ (.int .u64 lo)).setCell ⟨bx + 1, 2, none⟩ (.int .u64 hi)) := (((Kept.refl (S1 (bx + 1)) w3).setCell (p := ⟨bx + 1, 0, none⟩) (.inl rfl) _).setCell (p := ⟨bx + 1, 1, none⟩) (.inl rfl) _).setCell (p := ⟨bx + 1, 2, none⟩) (.inl rfl) _
  have hv4 : Blk (((w3.setCell ⟨bx + 1, 0, none⟩ (.int .u8 t)).setCell ⟨bx + 1, 1, none⟩ (.int .u64 lo)).setCell ⟨bx + 1, 2, none⟩ (.int .u64 hi)) (bx + 1) 65 #[.int .u8 t, .int .u64 lo, .int .u64 hi] := ((hv3.set_ 0 (.int .u8 t)).set_ 1 (.int .u64 lo)).set_ 2 (.int .u64 hi)
  have hb4 := hs4.blk hb3 (fun e => by have e' : bx = bx + 1 := e; omega)
  have hcell : ∀ j v, w3.cell? ⟨g, j, none⟩ = some v → (((w3.setCell ⟨bx + 1, 0, none⟩ (.int .u8 t)).setCell ⟨bx + 1, 1, none⟩ (.int .u64 lo)).setCell ⟨bx + 1, 2, none⟩ (.int .u64 hi)).cell? ⟨g, j, none⟩ = some v := fun j v h => (hs4.cell (p := ⟨g, j, none⟩) (World.block_lt_of_cell? _ _ h) (fun e => by have e' : g = bx + 1 := e; omega)).trans h
  have HK4 := Lib.hid (HK3.out.trans_ hs4 (fun i e => .inr (by have e' : i = bx + 1 := e; omega)))
  have hS4 : (((w3.setCell ⟨bx + 1, 0, none⟩ (.int .u8 t)).setCell ⟨bx + 1, 1, none⟩ (.int .u64 lo)).setCell ⟨bx + 1, 2, none⟩ (.int .u64 hi)).cell? ⟨g, a * 5, none⟩ = some (.int .u8 gt) ∧ (((w3.setCell ⟨bx + 1, 0, none⟩ (.int .u8 t)).setCell ⟨bx + 1, 1, none⟩ (.int .u64 lo)).setCell ⟨bx + 1, 2, none⟩ (.int .u64 hi)).cell? ⟨g, a * 5 + 1, none⟩ = some (.bool gm) ∧ (((w3.setCell ⟨bx + 1, 0, none⟩ (.int .u8 t)).setCell ⟨bx + 1, 1, none⟩ (.int .u64 lo)).setCell ⟨bx + 1, 2, none⟩ (.int .u64 hi)).cell? ⟨g, a * 5 + 2, none⟩ = some (.int .u8 t) ∧ (((w3.setCell ⟨bx + 1, 0, none⟩ (.int .u8 t)).setCell ⟨bx + 1, 1, none⟩ (.int .u64 lo)).setCell ⟨bx + 1, 2, none⟩ (.int .u64 hi)).cell? ⟨g, a * 5 + 2 + 1, none⟩ = some (.int .u64 lo) ∧ (((w3.setCell ⟨bx + 1, 0, none⟩ (.int .u8 t)).setCell ⟨bx + 1, 1, none⟩ (.int .u64 lo)).setCell ⟨bx + 1, 2, none⟩ (.int .u64 hi)).cell? ⟨g, a * 5 + 2 + 2, none⟩ = some (.int .u64 hi) := ⟨hcell _ _ hS3.1, hcell _ _ hS3.2.1, hcell _ _ hS3.2.2.1, hcell _ _ hS3.2.2.2.1, hcell _ _ hS3.2.2.2.2⟩
  refine hK9.out _ _ (fun _ => ⟨hcell _ _ hS3.1, hcell _ _ hS3.2.1, hcell _ _ hS3.2.2.1, hcell _ _ hS3.2.2.2.1, hcell _ _ hS3.2.2.2.2⟩) ?_
  clear hK9 K hS3 hcell hs4 q0 q1 q2 r0 r1 r2 hv3 hb3 HK3
  generalize ((w3.setCell ⟨bx + 1, 0, none⟩ (.int .u8 t)).setCell ⟨bx + 1, 1, none⟩ (.int .u64 lo)).setCell ⟨bx + 1, 2, none⟩ (.int .u64 hi) = w4 at *
  refine wpAnyR_one 10 rfl (by kernel_rfl) (fun K hK10 => ?_)
  go_simp
  refine hK10.out _ _ (fun _ => hS4) ?_
  clear hK10 K hS4
  refine wpAnyR_done (by kernel_rfl) ?_ _
  have u0 := hb4.cell 0
  have u1 := hb4.cell 1
  have u2 := hv4.cell 0
  have u3 := hv4.cell 1
  have u4 := hv4.cell 2
  go_wp2_with fail
  exact bodyPost_ret (v := .tuple #[.agg #[.int .u8 gt, .bool gm], .agg #[.int .u8 t, .int .u64 lo, .int .u64 hi], .int .i64 0]) (by simp [results, Tryz.results20, go_sem, u0, u1, u2, u3, u4]) rfl ⟨rfl, HK4.out⟩
end
end Go.Proofs.YtlnkdnmeikpckaaGreat
namespace Go.Proofs.YtlnkdnmeikpckaaGreat
open Go.RowKit
set_option maxRecDepth 100000
section
variable {w : World} {sb B n : Nat} {fl tl ml gl el dl il : Value} {F : Nat → Value}
set_option maxRecDepth 100000 in
set_option maxHeartbeats 1600000 in
theorem getglob_out (a : Int) (hb : Blk w sb 132 (stCells fl tl ml gl el dl il)) (hown : Own w B 149 5 AnyV gl n F) (hn : n ≤ 65536) (ha : a < 0 ∨ (n : Int) ≤ a) :
    Calls Tryz.prog 20 #[.pointer (some ⟨sb, 0, none⟩), .int .i64 a] w fun e w' => e = .returned (.tuple #[.agg #[.int .u8 0, .bool false], .agg #[.int .u8 0, .int .u64 0, .int .u64 0], .int .i64 11]) ∧ Kept S0 w w' := by
  obtain ⟨lA, lc, hlv, _, _, _⟩ := hown.out
  subst hlv
  have hka : Kept S0 w ((w.alloc (.cells #[.int .u8 0, .bool false] 33)).alloc (.cells #[.int .u8 0, .int .u64 0, .int .u64 0] 65)) := ((Kept.refl S0 w).alloc _).alloc _
  have hb1 := hka.blk hb (fun x => x)
  have c0 : ((w.alloc (.cells #[.int .u8 0, .bool false] 33)).alloc (.cells #[.int .u8 0, .int .u64 0, .int .u64 0] 65)).cell? ⟨sb, 0, none⟩ = some (.bool true) := hb1.cell 0
  have c1 : ((w.alloc (.cells #[.int .u8 0, .bool false] 33)).alloc (.cells #[.int .u8 0, .int .u64 0, .int .u64 0] 65)).cell? ⟨sb, 4, none⟩ = some (.slice lA n lc) := hb1.cell 4
  have hB0 := (Blk.new w 33 #[.int .u8 0, .bool false]).alloc (.cells #[.int .u8 0, .int .u64 0, .int .u64 0] 65)
  have hB1 := Blk.new1 w (.cells #[.int .u8 0, .bool false] 33) 65 #[.int .u8 0, .int .u64 0, .int .u64 0]
  generalize hbx : w.heap.size = bx at *
  generalize hwa : ((w.alloc (.cells #[.int .u8 0, .bool false] 33)).alloc (.cells #[.int .u8 0, .int .u64 0, .int .u64 0] 65)) = wa at *
  have hk4 := (((((Kept.refl S0 w).of0 (S2 bx (bx + 1))).trans_ (hka.of0 (S2 bx (bx + 1))) (fun _ h => .inl h)))).trans_ ((((((Kept.refl (S2 bx (bx + 1)) wa).setCell (p := ⟨bx, 0, none⟩) (.inl (.inl rfl)) (.int .u8 0)).setCell (p := ⟨bx, 1, none⟩) (.inl (.inl rfl)) (.bool false)).setCell (p := ⟨bx + 1, 0, none⟩) (.inl (.inr rfl)) (.int .u8 0)).setCell (p := ⟨bx + 1, 1, none⟩) (.inl (.inr rfl)) (.int .u64 0)).setCell (p := ⟨bx + 1, 2, none⟩) (.inl (.inr rfl)) (.int .u64 0)) (fun _ h => .inl h)
  have HK := Lib.hid (hka.trans_ ((((((Kept.refl (S2 bx (bx + 1)) wa).setCell (p := ⟨bx, 0, none⟩) (.inl (.inl rfl)) (.int .u8 0)).setCell (p := ⟨bx, 1, none⟩) (.inl (.inl rfl)) (.bool false)).setCell (p := ⟨bx + 1, 0, none⟩) (.inl (.inr rfl)) (.int .u8 0)).setCell (p := ⟨bx + 1, 1, none⟩) (.inl (.inr rfl)) (.int .u64 0)).setCell (p := ⟨bx + 1, 2, none⟩) (.inl (.inr rfl)) (.int .u64 0)) (fun i h => .inr (by rcases h with h | h <;> omega)))
  have hb4 : Blk (((((wa.setCell ⟨bx, 0, none⟩ (.int .u8 0)).setCell ⟨bx, 1, none⟩ (.bool false)).setCell ⟨bx + 1, 0, none⟩ (.int .u8 0)).setCell ⟨bx + 1, 1, none⟩ (.int .u64 0)).setCell ⟨bx + 1, 2, none⟩ (.int .u64 0)) bx 33 #[.int .u8 0, .bool false] :=
    ((((hB0.set_ 0 (.int .u8 0)).set_ 1 (.bool false)).far (p := ⟨bx + 1, 0, none⟩) (by simp) _).far (p := ⟨bx + 1, 1, none⟩) (by simp) _).far (p := ⟨bx + 1, 2, none⟩) (by simp) _
  have hv4 : Blk (((((wa.setCell ⟨bx, 0, none⟩ (.int .u8 0)).setCell ⟨bx, 1, none⟩ (.bool false)).setCell ⟨bx + 1, 0, none⟩ (.int .u8 0)).setCell ⟨bx + 1, 1, none⟩ (.int .u64 0)).setCell ⟨bx + 1, 2, none⟩ (.int .u64 0)) (bx + 1) 65 #[.int .u8 0, .int .u64 0, .int .u64 0] :=
    ((((hB1.far (p := ⟨bx, 0, none⟩) (by simp) _).far (p := ⟨bx, 1, none⟩) (by simp) _).set_ 0 (.int .u8 0)).set_ 1 (.int .u64 0)).set_ 2 (.int .u64 0)
  have u0 := hb4.cell 0
  have u1 := hb4.cell 1
  have u2 := hv4.cell 0
  have u3 := hv4.cell 1
  have u4 := hv4.cell 2
  have q0 := hB0.cell 0
  have q1 := hB0.cell 1
  have q2 := hB0.frozen 0
  have q3 := hB0.frozen 1
  have r0 := hB1.cell 0
  have r1 := hB1.cell 1
  have r2 := hB1.cell 2
  have r3 := hB1.frozen 0
  have r4 := hB1.frozen 1
  have r5 := hB1.frozen 2
  clear hb hown hb1 hka hk4 hb4 hv4 hB0 hB1
  go_enter Tryz.func20, Tryz.ntmps20
  go_wp2_with fail
  refine (off_made _ _ c0).mono ?_
  rintro e w1 ⟨rfl, rfl⟩
  go_wp2_with fail
  refine (at_GLOB_out a lA c1 hn ha).mono ?_
  rintro e w1 ⟨rfl, rfl⟩
  clear c0 c1 ha
  go_wp2_with fail
  exact bodyPost_ret (v := .tuple #[.agg #[.int .u8 0, .bool false], .agg #[.int .u8 0, .int .u64 0, .int .u64 0], .int .i64 11]) (by simp [results, Tryz.results20, go_sem, u0, u1, u2, u3, u4]) rfl ⟨rfl, HK.out⟩
set_option maxHeartbeats 1600000 in
theorem drop_other (k a : Int) (hb : Blk w sb 132 (stCells fl tl ml gl el dl il)) (h1 : (k == 1) = false) (h2 : (k == 2) = false) :
    Calls Tryz.prog 28 #[.pointer (some ⟨sb, 0, none⟩), .int .u8 k, .int .i64 a] w fun e w' => e = .returned (.int .i64 11) ∧ w = w' := by
  have c0 : w.cell? ⟨sb, 0, none⟩ = some (.bool true) := hb.cell 0
  clear hb
  go_enter Tryz.func28, Tryz.ntmps28
  go_wp2_with fail
  refine (off_made _ _ c0).mono ?_
  rintro e w1 ⟨rfl, rfl⟩
  go_wp2_with fail
  go_ret
  exact ⟨rfl, rfl⟩
end
end Go.Proofs.YtlnkdnmeikpckaaGreat
namespace Go.Proofs.YtlnkdnmeikpckaaGreat
open Go.RowKit
set_option maxRecDepth 100000
set_option maxRecDepth 100000 in
set_option maxHeartbeats 3200000 in
theorem rsizes_any {w : World} {rb : Nat} {A0 A1 A2 A3 A4 A5 A6 : Option Addr} {n0 n1 n2 n3 n4 n5 n6 c0 c1 c2 c3 c4 c5 c6 : Nat} (hb : Blk w rb 89 (rCells (.slice A0 n0 c0) (.slice A1 n1 c1) (.slice A2 n2 c2) (.slice A3 n3 c3) (.slice A4 n4 c4) (.slice A5 n5 c5) (.slice A6 n6 c6))) :
    Calls Tryz.prog 9 #[.pointer (some ⟨rb, 0, none⟩)] w fun e w' => e = .returned (.agg #[.int .i64 (n0 : Int), .int .i64 (n1 : Int), .int .i64 (n2 : Int), .int .i64 (n3 : Int), .int .i64 (n4 : Int), .int .i64 (n5 : Int), .int .i64 (n6 : Int)]) ∧ Kept S0 w w' := by
  have hka : Kept S0 w (w.alloc (.cells #[.int .i64 0, .int .i64 0, .int .i64 0, .int .i64 0, .int .i64 0, .int .i64 0, .int .i64 0] 43)) := (Kept.refl S0 w).alloc _
  have hr := Blk.new w 43 #[.int .i64 0, .int .i64 0, .int .i64 0, .int .i64 0, .int .i64 0, .int .i64 0, .int .i64 0]
  have HB1 := Lib.hid (hka.blk hb (fun x => x))
  have HR := Lib.hid hr
  have HK := Lib.hid hka
  clear hb hka hr
  go_enter Tryz.func9, Tryz.ntmps9
  go_wp2_with fail
  generalize hxb : w.heap.size = xb at *
  refine wp_region_R (fun w' => w'.cell? ⟨rb, 0, none⟩ = some (.slice A0 n0 c0) ∧ w'.cell? ⟨rb, 1, none⟩ = some (.slice A1 n1 c1) ∧ w'.cell? ⟨rb, 2, none⟩ = some (.slice A2 n2 c2) ∧ w'.cell? ⟨rb, 3, none⟩ = some (.slice A3 n3 c3) ∧ w'.cell? ⟨rb, 4, none⟩ = some (.slice A4 n4 c4) ∧ w'.cell? ⟨rb, 5, none⟩ = some (.slice A5 n5 c5) ∧ w'.cell? ⟨rb, 6, none⟩ = some (.slice A6 n6 c6)) [36] (by kernel_rfl) ?_
  have hd := HK.out.drew
  have hb2 := HB1.out.drew
  have hr2 := HR.out.drew
  generalize (w.alloc (.cells #[.int .i64 0, .int .i64 0, .int .i64 0, .int .i64 0, .int .i64 0, .int .i64 0, .int .i64 0] 43)).drew = w1 at *
  have hS : w1.cell? ⟨rb, 0, none⟩ = some (.slice A0 n0 c0) ∧ w1.cell? ⟨rb, 1, none⟩ = some (.slice A1 n1 c1) ∧ w1.cell? ⟨rb, 2, none⟩ = some (.slice A2 n2 c2) ∧ w1.cell? ⟨rb, 3, none⟩ = some (.slice A3 n3 c3) ∧ w1.cell? ⟨rb, 4, none⟩ = some (.slice A4 n4 c4) ∧ w1.cell? ⟨rb, 5, none⟩ = some (.slice A5 n5 c5) ∧ w1.cell? ⟨rb, 6, none⟩ = some (.slice A6 n6 c6) := ⟨hb2.cell 0, hb2.cell 1, hb2.cell 2, hb2.cell 3, hb2.cell 4, hb2.cell 5, hb2.cell 6⟩
  have r0 := hr2.cell 0
  have q0 := hr2.frozen 0
  have r1 := hr2.cell 1
  have q1 := hr2.frozen 1
  have r2 := hr2.cell 2
  have q2 := hr2.frozen 2
  have r3 := hr2.cell 3
  have q3 := hr2.frozen 3
  have r4 := hr2.cell 4
  have q4 := hr2.frozen 4
  have r5 := hr2.cell 5
  have q5 := hr2.frozen 5
  have r6 := hr2.cell 6
  have q6 := hr2.frozen 6
  have HR4 := Lib.hid (show Blk (((((((w1.setCell ⟨xb, 0, none⟩ (.int .i64 (n0 : Int))).setCell ⟨xb, 1, none⟩ (.int .i64 (n1 : Int))).setCell ⟨xb, 2, none⟩ (.int .i64 (n2 : Int))).setCell ⟨xb, 3, none⟩ (.int .i64 (n3 : Int))).setCell ⟨xb, 4, none⟩ (.int .i64 (n4 : Int))).setCell ⟨xb, 5, none⟩ (.int .i64 (n5 : Int))).setCell ⟨xb, 6, none⟩ (.int .i64 (n6 : Int))) xb 43 #[.int .i64 (n0 : Int), .int .i64 (n1 : Int), .int .i64 (n2 : Int), .int .i64 (n3 : Int), .int .i64 (n4 : Int), .int .i64 (n5 : Int), .int .i64 (n6 : Int)] from (((((((hr2.set_ 0 (.int .i64 (n0 : Int))).set_ 1 (.int .i64 (n1 : Int))).set_ 2 (.int .i64 (n2 : Int))).set_ 3 (.int .i64 (n3 : Int))).set_ 4 (.int .i64 (n4 : Int))).set_ 5 (.int .i64 (n5 : Int))).set_ 6 (.int .i64 (n6 : Int))))
  have HK4 := Lib.hid (hd.trans_ ((((((((Kept.refl (S1 xb) w1).setCell (p := ⟨xb, 0, none⟩) (.inl rfl) (.int .i64 (n0 : Int))).setCell (p := ⟨xb, 1, none⟩) (.inl rfl) (.int .i64 (n1 : Int))).setCell (p := ⟨xb, 2, none⟩) (.inl rfl) (.int .i64 (n2 : Int))).setCell (p := ⟨xb, 3, none⟩) (.inl rfl) (.int .i64 (n3 : Int))).setCell (p := ⟨xb, 4, none⟩) (.inl rfl) (.int .i64 (n4 : Int))).setCell (p := ⟨xb, 5, none⟩) (.inl rfl) (.int .i64 (n5 : Int))).setCell (p := ⟨xb, 6, none⟩) (.inl rfl) (.int .i64 (n6 : Int))) (fun i e => .inr (by have e' : i = xb := e; omega)))
  clear hd hb2 hr2 HB1 HR HK
  (first | (refine tkR 0 (v := ?_) rfl hS ⟨by rfl, ?_⟩ ?_; rotate_left; intro w h; (try dsimp only at h); first | (go_simp; done) | (go_simp; with_reducible rfl)) | refine skR 0 rfl (fun _ => hS) (by rfl) ?_); simp only [zq1, zq2, Act.put, zq4, zq5, zq6]
  (first | (refine tkR 1 (v := ?_) rfl hS ⟨by rfl, ?_⟩ ?_; rotate_left; intro w h; (try dsimp only at h); first | (go_simp; done) | (go_simp; with_reducible rfl)) | refine skR 1 rfl (fun _ => hS) (by rfl) ?_); simp only [zq1, zq2, zq3, Act.put, zq4, zq5, zq6]
  (first | (refine tkR 2 (v := ?_) rfl hS ⟨by rfl, ?_⟩ ?_; rotate_left; intro w h; (try dsimp only at h); first | (go_simp; done) | (go_simp; with_reducible rfl)) | refine skR 2 rfl (fun _ => hS) (by rfl) ?_); simp only [zq1, zq2, zq3, Act.put, zq4, zq5, zq6]
  (first | (refine tkR 3 (v := ?_) rfl hS ⟨by rfl, ?_⟩ ?_; rotate_left; intro w h; (try dsimp only at h); first | (go_simp; done) | (go_simp; with_reducible rfl)) | refine skR 3 rfl (fun _ => hS) (by rfl) ?_); simp only [zq1, zq2, zq3, Act.put, zq4, zq5, zq6]
  (first | (refine tkR 4 (v := ?_) rfl hS ⟨by rfl, ?_⟩ ?_; rotate_left; intro w h; (try dsimp only at h); first | (go_simp; done) | (go_simp; with_reducible rfl)) | refine skR 4 rfl (fun _ => hS) (by rfl) ?_); simp only [zq1, zq2, zq3, Act.put, zq4, zq5, zq6]
  (first | (refine tkR 5 (v := ?_) rfl hS ⟨by rfl, ?_⟩ ?_; rotate_left; intro w h; (try dsimp only at h); first | (go_simp; done) | (go_simp; with_reducible rfl)) | refine skR 5 rfl (fun _ => hS) (by rfl) ?_); simp only [zq1, zq2, zq3, Act.put, zq4, zq5, zq6]
  (first | (refine tkR 6 (v := ?_) rfl hS ⟨by rfl, ?_⟩ ?_; rotate_left; intro w h; (try dsimp only at h); first | (go_simp; done) | (go_simp; with_reducible rfl)) | refine skR 6 rfl (fun _ => hS) (by rfl) ?_); simp only [zq1, zq2, zq3, Act.put, zq4, zq5, zq6]
  (first | (refine tkR 7 (v := ?_) rfl hS ⟨by rfl, ?_⟩ ?_; rotate_left; intro w h; (try dsimp only at h); first | (go_simp; done) | (go_simp; with_reducible rfl)) | refine skR 7 rfl (fun _ => hS) (by rfl) ?_); simp only [zq1, zq2, zq3, Act.put, zq4, zq5, zq6]
  (first | (refine tkR 8 (v := ?_) rfl hS ⟨by rfl, ?_⟩ ?_; rotate_left; intro w h; (try dsimp only at h); first | (go_simp; done) | (go_simp; with_reducible rfl)) | refine skR 8 rfl (fun _ => hS) (by rfl) ?_); simp only [zq1, zq2, zq3, Act.put, zq4, zq5, zq6]
  (first | (refine tkR 9 (v := ?_) rfl hS ⟨by rfl, ?_⟩ ?_; rotate_left; intro w h; (try dsimp only at h); first | (go_simp; done) | (go_simp; with_reducible rfl)) | refine skR 9 rfl (fun _ => hS) (by rfl) ?_); simp only [zq1, zq2, zq3, Act.put, zq4, zq5, zq6]
  (first | (refine tkR 10 (v := ?_) rfl hS ⟨by rfl, ?_⟩ ?_; rotate_left; intro w h; (try dsimp only at h); first | (go_simp; done) | (go_simp; with_reducible rfl)) | refine skR 10 rfl (fun _ => hS) (by rfl) ?_); simp only [zq1, zq2, zq3, Act.put, zq4, zq5, zq6]
  (first | (refine tkR 11 (v := ?_) rfl hS ⟨by rfl, ?_⟩ ?_; rotate_left; intro w h; (try dsimp only at h); first | (go_simp; done) | (go_simp; with_reducible rfl)) | refine skR 11 rfl (fun _ => hS) (by rfl) ?_); simp only [zq1, zq2, zq3, Act.put, zq4, zq5, zq6]
  (first | (refine tkR 12 (v := ?_) rfl hS ⟨by rfl, ?_⟩ ?_; rotate_left; intro w h; (try dsimp only at h); first | (go_simp; done) | (go_simp; with_reducible rfl)) | refine skR 12 rfl (fun _ => hS) (by rfl) ?_); simp only [zq1, zq2, zq3, Act.put, zq4, zq5, zq6]
  (first | (refine tkR 13 (v := ?_) rfl hS ⟨by rfl, ?_⟩ ?_; rotate_left; intro w h; (try dsimp only at h); first | (go_simp; done) | (go_simp; with_reducible rfl)) | refine skR 13 rfl (fun _ => hS) (by rfl) ?_); simp only [zq1, zq2, zq3, Act.put, zq4, zq5, zq6]
  (first | (refine tkR 14 (v := ?_) rfl hS ⟨by rfl, ?_⟩ ?_; rotate_left; intro w h; (try dsimp only at h); first | (go_simp; done) | (go_simp; with_reducible rfl)) | refine skR 14 rfl (fun _ => hS) (by rfl) ?_); simp only [zq1, zq2, zq3, Act.put, zq4, zq5, zq6]
  (first | (refine tkR 15 (v := ?_) rfl hS ⟨by rfl, ?_⟩ ?_; rotate_left; intro w h; (try dsimp only at h); first | (go_simp; done) | (go_simp; with_reducible rfl)) | refine skR 15 rfl (fun _ => hS) (by rfl) ?_); simp only [zq1, zq2, zq3, Act.put, zq4, zq5, zq6]
  (first | (refine tkR 16 (v := ?_) rfl hS ⟨by rfl, ?_⟩ ?_; rotate_left; intro w h; (try dsimp only at h); first | (go_simp; done) | (go_simp; with_reducible rfl)) | refine skR 16 rfl (fun _ => hS) (by rfl) ?_); simp only [zq1, zq2, zq3, Act.put, zq4, zq5, zq6]
  (first | (refine tkR 17 (v := ?_) rfl hS ⟨by rfl, ?_⟩ ?_; rotate_left; intro w h; (try dsimp only at h); first | (go_simp; done) | (go_simp; with_reducible rfl)) | refine skR 17 rfl (fun _ => hS) (by rfl) ?_); simp only [zq1, zq2, zq3, Act.put, zq4, zq5, zq6]
  (first | (refine tkR 18 (v := ?_) rfl hS ⟨by rfl, ?_⟩ ?_; rotate_left; intro w h; (try dsimp only at h); first | (go_simp; done) | (go_simp; with_reducible rfl)) | refine skR 18 rfl (fun _ => hS) (by rfl) ?_); simp only [zq1, zq2, zq3, Act.put, zq4, zq5, zq6]
  (first | (refine tkR 19 (v := ?_) rfl hS ⟨by rfl, ?_⟩ ?_; rotate_left; intro w h; (try dsimp only at h); first | (go_simp; done) | (go_simp; with_reducible rfl)) | refine skR 19 rfl (fun _ => hS) (by rfl) ?_); simp only [zq1, zq2, zq3, Act.put, zq4, zq5, zq6]
  (first | (refine tkR 20 (v := ?_) rfl hS ⟨by rfl, ?_⟩ ?_; rotate_left; intro w h; (try dsimp only at h); first | (go_simp; done) | (go_simp; with_reducible rfl)) | refine skR 20 rfl (fun _ => hS) (by rfl) ?_); simp only [zq1, zq2, zq3, Act.put, zq4, zq5, zq6]
  (first | (refine tkR 21 (v := ?_) rfl hS ⟨by rfl, ?_⟩ ?_; rotate_left; intro w h; (try dsimp only at h); first | (go_simp; done) | (go_simp; with_reducible rfl)) | refine skR 21 rfl (fun _ => hS) (by rfl) ?_); simp only [zq1, zq2, zq3, Act.put, zq4, zq5, zq6]
  (first | (refine tkR 22 (v := ?_) rfl hS ⟨by rfl, ?_⟩ ?_; rotate_left; intro w h; (try dsimp only at h); first | (go_simp; done) | (go_simp; with_reducible rfl)) | refine skR 22 rfl (fun _ => hS) (by rfl) ?_); simp only [zq1, zq2, zq3, Act.put, zq4, zq5, zq6]
  (first | (refine tkR 23 (v := ?_) rfl hS ⟨by rfl, ?_⟩ ?_; rotate_left; intro w h; (try dsimp only at h); first | (go_simp; done) | (go_simp; with_reducible rfl)) | refine skR 23 rfl (fun _ => hS) (by rfl) ?_); simp only [zq1, zq2, zq3, Act.put, zq4, zq5, zq6]
  (first | (refine tkR 24 (v := ?_) rfl hS ⟨by rfl, ?_⟩ ?_; rotate_left; intro w h; (try dsimp only at h); first | (go_simp; done) | (go_simp; with_reducible rfl)) | refine skR 24 rfl (fun _ => hS) (by rfl) ?_); simp only [zq1, zq2, zq3, Act.put, zq4, zq5, zq6]
  (first | (refine tkR 25 (v := ?_) rfl hS ⟨by rfl, ?_⟩ ?_; rotate_left; intro w h; (try dsimp only at h); first | (go_simp; done) | (go_simp; with_reducible rfl)) | refine skR 25 rfl (fun _ => hS) (by rfl) ?_); simp only [zq1, zq2, zq3, Act.put, zq4, zq5, zq6]
  (first | (refine tkR 26 (v := ?_) rfl hS ⟨by rfl, ?_⟩ ?_; rotate_left; intro w h; (try dsimp only at h); first | (go_simp; done) | (go_simp; with_reducible rfl)) | refine skR 26 rfl (fun _ => hS) (by rfl) ?_); simp only [zq1, zq2, zq3, Act.put, zq4, zq5, zq6]
  (first | (refine tkR 27 (v := ?_) rfl hS ⟨by rfl, ?_⟩ ?_; rotate_left; intro w h; (try dsimp only at h); first | (go_simp; done) | (go_simp; with_reducible rfl)) | refine skR 27 rfl (fun _ => hS) (by rfl) ?_); simp only [zq1, zq2, zq3, Act.put, zq4, zq5, zq6]
  (first | (refine tkR 28 (v := ?_) rfl hS ⟨by rfl, ?_⟩ ?_; rotate_left; intro w h; (try dsimp only at h); first | (go_simp; done) | (go_simp; with_reducible rfl)) | refine skR 28 rfl (fun _ => hS) (by rfl) ?_); simp only [zq1, zq2, zq3, Act.put, zq4, zq5, zq6]
  (first | (refine tkR 29 (v := ?_) rfl hS ⟨by rfl, ?_⟩ ?_; rotate_left; intro w h; (try dsimp only at h); first | (go_simp; done) | (go_simp; with_reducible rfl)) | refine skR 29 rfl (fun _ => hS) (by rfl) ?_); simp only [zq1, zq2, zq3, Act.put, zq4, zq5, zq6]
  (first | (refine tkR 30 (v := ?_) rfl hS ⟨by rfl, ?_⟩ ?_; rotate_left; intro w h; (try dsimp only at h); first | (go_simp; done) | (go_simp; with_reducible rfl)) | refine skR 30 rfl (fun _ => hS) (by rfl) ?_); simp only [zq1, zq2, zq3, Act.put, zq4, zq5, zq6]
  (first | (refine tkR 31 (v := ?_) rfl hS ⟨by rfl, ?_⟩ ?_; rotate_left; intro w h; (try dsimp only at h); first | (go_simp; done) | (go_simp; with_reducible rfl)) | refine skR 31 rfl (fun _ => hS) (by rfl) ?_); simp only [zq1, zq2, zq3, Act.put, zq4, zq5, zq6]
  (first | (refine tkR 32 (v := ?_) rfl hS ⟨by rfl, ?_⟩ ?_; rotate_left; intro w h; (try dsimp only at h); first | (go_simp; done) | (go_simp; with_reducible rfl)) | refine skR 32 rfl (fun _ => hS) (by rfl) ?_); simp only [zq1, zq2, zq3, Act.put, zq4, zq5, zq6]
  (first | (refine tkR 33 (v := ?_) rfl hS ⟨by rfl, ?_⟩ ?_; rotate_left; intro w h; (try dsimp only at h); first | (go_simp; done) | (go_simp; with_reducible rfl)) | refine skR 33 rfl (fun _ => hS) (by rfl) ?_); simp only [zq1, zq2, zq3, Act.put, zq4, zq5, zq6]
  (first | (refine tkR 34 (v := ?_) rfl hS ⟨by rfl, ?_⟩ ?_; rotate_left; intro w h; (try dsimp only at h); first | (go_simp; done) | (go_simp; with_reducible rfl)) | refine skR 34 rfl (fun _ => hS) (by rfl) ?_); simp only [zq1, zq2, zq3, Act.put, zq4, zq5, zq6]
  (first | (refine tkR 35 (v := ?_) rfl hS ⟨by rfl, ?_⟩ ?_; rotate_left; intro w h; (try dsimp only at h); first | (go_simp; done) | (go_simp; with_reducible rfl)) | refine skR 35 rfl (fun _ => hS) (by rfl) ?_); simp only [zq1, zq2, zq3, Act.put, zq4, zq5, zq6]
  refine wpAnyR_one 36 rfl (by kernel_rfl) (fun K hK => ?_)
  go_simp
  refine hK.out _ _ (fun h => absurd h (by decide)) ?_
  clear hK K
  refine wpAnyR_done (by kernel_rfl) ?_ _
  have u0 := HR4.out.cell 0
  have u1 := HR4.out.cell 1
  have u2 := HR4.out.cell 2
  have u3 := HR4.out.cell 3
  have u4 := HR4.out.cell 4
  have u5 := HR4.out.cell 5
  have u6 := HR4.out.cell 6
  go_wp2_with fail
  exact bodyPost_ret (v := .agg #[.int .i64 (n0 : Int), .int .i64 (n1 : Int), .int .i64 (n2 : Int), .int .i64 (n3 : Int), .int .i64 (n4 : Int), .int .i64 (n5 : Int), .int .i64 (n6 : Int)]) (by simp [results, Tryz.results9, go_sem, u0, u1, u2, u3, u4, u5, u6]) rfl ⟨rfl, HK4.out⟩
end Go.Proofs.YtlnkdnmeikpckaaGreat
namespace Go.Proofs.YtlnkdnmeikpckaaGreat
open Go.RowKit
set_option maxRecDepth 100000
section
variable {lab lab' : Nat → Nat} {w w' : World} {A : Option Addr} {n c sz bytes : Nat} {F : Nat → Value} {S : Nat → Prop}
theorem SlL.sl (h : SlL lab w A n F) : Sl w A n F := fun hn => let ⟨b, o, e, _, hc⟩ := h hn; ⟨b, o, e, hc⟩
theorem LstL.lsl (h : LstL lab w sz bytes A n c F) : LSl w sz bytes A n c F := ⟨h.sl.sl, h.z, h.sm⟩
theorem LstL.tsl {v : Nat → UInt8} (h : LstL lab w 1 1 A n c (byteV v)) : TSl w A n c v := ⟨by have := h.sl.sl; rwa [Nat.mul_one] at this, h.z, by have := h.sm; omega⟩
end
end Go.Proofs.YtlnkdnmeikpckaaGreat
namespace Go.Proofs.YtlnkdnmeikpckaaGreat
open Go.RowKit
set_option maxRecDepth 100000
/-- The document's store's object, its lists written out. -/
theorem RAt.obj {B sb : Nat} {lab : Nat → Nat} {w : World} {P : PSt} {v : SV} (h : RAt B lab w sb P v) : ∃ A0 A1 A2 A3 A4 A5 A6 c0 c1 c2 c3 c4 c5 c6, Blk w sb 89 (rCells (.slice A0 P.nf c0) (.slice A1 P.nt c1) (.slice A2 P.nm c2) (.slice A3 P.ng c3) (.slice A4 P.ne c4) (.slice A5 P.nd c5) (.slice A6 P.ni c6)) ∧
    v.fl = .slice A0 P.nf c0 ∧ v.tl = .slice A1 P.nt c1 ∧ v.ml = .slice A2 P.nm c2 ∧ v.gl = .slice A3 P.ng c3 ∧ v.el = .slice A4 P.ne c4 ∧ v.dl = .slice A5 P.nd c5 ∧ v.il = .slice A6 P.ni c6 := by
  obtain ⟨A0, c0, e0, _⟩ := h.ls.f.out
  obtain ⟨A1, c1, e1, _⟩ := h.ls.t.out
  obtain ⟨A2, c2, e2, _⟩ := h.ls.m.out
  obtain ⟨A3, c3, e3, _⟩ := h.ls.g.out
  obtain ⟨A4, c4, e4, _⟩ := h.ls.e.out
  obtain ⟨A5, c5, e5, _⟩ := h.ls.d.out
  obtain ⟨A6, c6, e6, _⟩ := h.ls.i.out
  have ho := h.ls.obj
  rw [e0, e1, e2, e3, e4, e5, e6] at ho
  exact ⟨A0, A1, A2, A3, A4, A5, A6, c0, c1, c2, c3, c4, c5, c6, ho, e0, e1, e2, e3, e4, e5, e6⟩
end Go.Proofs.YtlnkdnmeikpckaaGreat
namespace Go.Proofs.YtlnkdnmeikpckaaGreat
open Go.RowKit
set_option maxRecDepth 100000
def noneE (n : Nat) (a : Int) : Int := if inA a n = true then 0 else 11
theorem noneE_in {n : Nat} {a : Int} (h : inA a n = true) : noneE n a = 0 := if_pos h
theorem noneE_out {n : Nat} {a : Int} (h : inA a n = false) : noneE n a = 11 := if_neg (by rw [h]; decide)
theorem inA_nat {n : Nat} {a : Int} (h : inA a n = true) : ∃ k : Nat, a = (k : Int) ∧ k < n := by
  have h' := of_decide_eq_true h
  exact ⟨a.toNat, by omega, by omega⟩
theorem inA_out {n : Nat} {a : Int} (h : inA a n = false) : a < 0 ∨ (n : Int) ≤ a := by
  have h' := of_decide_eq_false h
  omega
theorem FnL.at {lab : Nat → Nat} {w : World} {F : Nat → Value} {i : Nat} {p : PFn} (h : FnL lab w F i p) : ∃ A c C d, FnAt w F i A p.np c p.v C p.nr d p.u p.h p.s p.i p.b := by
  obtain ⟨A, c, C, d, f0, f1, f2, f3, f4, f5, l1, l2⟩ := h.ex
  exact ⟨A, c, C, d, f0, f1, f2, f3, f4, f5, l1.tsl, l2.tsl⟩
section
variable {B sb rb : Nat} {lab : Nat → Nat} {w : World} {P : PSt} {v u : SV}
theorem g_func (h : SAt B lab w sb P v) (hP : P.Le 60) (a : Int) :
    Calls Tryz.prog 14 #[.pointer (some ⟨sb, 0, none⟩), .int .i64 a] w fun e w' => (∃ x0 x1 x2 y0 y1 y2 h s i b, e = .returned (.tuple #[.agg #[.slice x0 x1 x2, .slice y0 y1 y2, .bool h, .string s, .int .i64 i, .int .i64 b], .int .i64 (noneE P.nf a)])) ∧ Kept S0 w w' := by
  have hn := hP.f
  cases ha : inA a P.nf with
  | false =>
    rw [noneE_out ha]
    refine (getfunc_out a h.ls.obj h.ls.f (by omega) (inA_out ha)).mono ?_
    rintro e w' ⟨rfl, hk⟩
    exact ⟨⟨_, _, _, _, _, _, _, _, _, _, rfl⟩, hk⟩
  | true =>
    rw [noneE_in ha]
    obtain ⟨k, rfl, hk⟩ := inA_nat ha
    obtain ⟨A, c, C, d, hF⟩ := (h.st.fn k hk).at
    refine (getfunc_in k A C (P.F k).np c (P.F k).nr d (P.F k).v (P.F k).u (P.F k).h (P.F k).s (P.F k).i (P.F k).b h.ls.obj h.ls.f (by omega) hk hF).mono ?_
    rintro e w' ⟨y, z, rfl, h1, h2, hk'⟩
    obtain ⟨A1, c1, rfl, _⟩ := h1.out
    obtain ⟨A2, c2, rfl, _⟩ := h2.out
    exact ⟨⟨_, _, _, _, _, _, _, _, _, _, rfl⟩, hk'⟩
theorem g_tab (h : SAt B lab w sb P v) (hP : P.Le 60) (a : Int) :
    Calls Tryz.prog 16 #[.pointer (some ⟨sb, 0, none⟩), .int .i64 a] w fun e w' => (∃ p : Option Addr, e = .returned (.tuple #[.pointer p, .int .i64 (noneE P.nt a)])) ∧ Kept S0 w w' := by
  have hn := hP.t
  cases ha : inA a P.nt with
  | false =>
    rw [noneE_out ha]
    refine (gettable_out a h.ls.obj h.ls.t (by omega) (inA_out ha)).mono ?_
    rintro e w' ⟨rfl, rfl⟩
    exact ⟨⟨_, rfl⟩, Kept.refl _ _⟩
  | true =>
    rw [noneE_in ha]
    obtain ⟨k, rfl, hk⟩ := inA_nat ha
    obtain ⟨tb, mn, lt, hF, _⟩ := (h.tb k hk).ex
    refine (gettable_in k _ h.ls.obj h.ls.t (by omega) hk hF).mono ?_
    rintro e w' ⟨rfl, rfl⟩
    exact ⟨⟨_, rfl⟩, Kept.refl _ _⟩
theorem g_mem (h : SAt B lab w sb P v) (hP : P.Le 60) (a : Int) :
    Calls Tryz.prog 18 #[.pointer (some ⟨sb, 0, none⟩), .int .i64 a] w fun e w' => (∃ p : Option Addr, e = .returned (.tuple #[.pointer p, .int .i64 (noneE P.nm a)])) ∧ Kept S0 w w' := by
  have hn := hP.m
  cases ha : inA a P.nm with
  | false =>
    rw [noneE_out ha]
    refine (getmem_out a h.ls.obj h.ls.m (by omega) (inA_out ha)).mono ?_
    rintro e w' ⟨rfl, rfl⟩
    exact ⟨⟨_, rfl⟩, Kept.refl _ _⟩
  | true =>
    rw [noneE_in ha]
    obtain ⟨k, rfl, hk⟩ := inA_nat ha
    obtain ⟨pb, bb, mn, f, hF, _⟩ := (h.mm k hk).ex
    refine (getmem_in k _ h.ls.obj h.ls.m (by omega) hk hF).mono ?_
    rintro e w' ⟨rfl, rfl⟩
    exact ⟨⟨_, rfl⟩, Kept.refl _ _⟩
theorem g_glob (h : SAt B lab w sb P v) (hP : P.Le 60) (a : Int) :
    Calls Tryz.prog 20 #[.pointer (some ⟨sb, 0, none⟩), .int .i64 a] w fun e w' => (∃ gt gm t lo hi, e = .returned (.tuple #[.agg #[.int .u8 gt, .bool gm], .agg #[.int .u8 t, .int .u64 lo, .int .u64 hi], .int .i64 (noneE P.ng a)])) ∧ Kept S0 w w' := by
  have hn := hP.g
  cases ha : inA a P.ng with
  | false =>
    rw [noneE_out ha]
    refine (getglob_out a h.ls.obj h.ls.g (by omega) (inA_out ha)).mono ?_
    rintro e w' ⟨rfl, hk⟩
    exact ⟨⟨_, _, _, _, _, rfl⟩, hk⟩
  | true =>
    rw [noneE_in ha]
    obtain ⟨k, rfl, hk⟩ := inA_nat ha
    have hg := h.st.gl k hk
    refine (getglob_in k (P.G k).t (P.G k).m (P.G k).x.t (P.G k).x.lo (P.G k).x.hi h.ls.obj h.ls.g (by omega) hk hg.f0 hg.f1 hg.f2 hg.f3 hg.f4).mono ?_
    rintro e w' ⟨rfl, hk'⟩
    exact ⟨⟨_, _, _, _, _, rfl⟩, hk'⟩
theorem g_elem (h : SAt B lab w sb P v) (hP : P.Le 60) (a : Int) :
    Calls Tryz.prog 24 #[.pointer (some ⟨sb, 0, none⟩), .int .i64 a] w fun e w' => (∃ A n c, e = .returned (.tuple #[.slice A n c, .int .i64 (noneE P.ne a)])) ∧ Kept S0 w w' := by
  have hn := hP.e
  cases ha : inA a P.ne with
  | false =>
    rw [noneE_out ha]
    refine (getelem_out a h.ls.obj h.ls.e (by omega) (inA_out ha)).mono ?_
    rintro e w' ⟨rfl, rfl⟩
    exact ⟨⟨_, _, _, rfl⟩, Kept.refl _ _⟩
  | true =>
    rw [noneE_in ha]
    obtain ⟨k, rfl, hk⟩ := inA_nat ha
    obtain ⟨A, c, f0, f1, hA⟩ := (h.st.el k hk).ex
    refine (getelem_in k (P.E k).t A (P.E k).n c (P.E k).f h.ls.obj h.ls.e (by omega) hk f0 f1 hA.lsl).mono ?_
    rintro e w' ⟨y, rfl, ho, hk'⟩
    obtain ⟨A', c', rfl, _⟩ := ho.out
    exact ⟨⟨_, _, _, rfl⟩, hk'⟩
theorem g_data (h : SAt B lab w sb P v) (hP : P.Le 60) (a : Int) :
    Calls Tryz.prog 25 #[.pointer (some ⟨sb, 0, none⟩), .int .i64 a] w fun e w' => (∃ A n c, e = .returned (.tuple #[.slice A n c, .int .i64 (noneE P.nd a)])) ∧ Kept S0 w w' := by
  have hn := hP.d
  cases ha : inA a P.nd with
  | false =>
    rw [noneE_out ha]
    refine (getdata_out a h.ls.obj h.ls.d (by omega) (inA_out ha)).mono ?_
    rintro e w' ⟨rfl, rfl⟩
    exact ⟨⟨_, _, _, rfl⟩, Kept.refl _ _⟩
  | true =>
    rw [noneE_in ha]
    obtain ⟨k, rfl, hk⟩ := inA_nat ha
    obtain ⟨A, m, c, x, f0, hA⟩ := (h.st.dt k hk).ex
    refine (getdata_in k A m c x h.ls.obj h.ls.d (by omega) hk f0 hA.lsl).mono ?_
    rintro e w' ⟨y, rfl, ho, hk'⟩
    obtain ⟨A', c', rfl, _⟩ := ho.out
    exact ⟨⟨_, _, _, rfl⟩, hk'⟩
theorem g_inst (h : SAt B lab w sb P v) (hP : P.Le 60) (a : Int) :
    Calls Tryz.prog 26 #[.pointer (some ⟨sb, 0, none⟩), .int .i64 a] w fun e w' => (∃ p : Option Addr, e = .returned (.tuple #[.pointer p, .int .i64 (noneE P.ni a)]) ∧ (p.isNone = !inA a P.ni)) ∧ Kept S0 w w' := by
  have hn := hP.i
  cases ha : inA a P.ni with
  | false =>
    rw [noneE_out ha]
    refine (getinst_out a h.ls.obj h.ls.i (by omega) (inA_out ha)).mono ?_
    rintro e w' ⟨rfl, rfl⟩
    exact ⟨⟨_, rfl, rfl⟩, Kept.refl _ _⟩
  | true =>
    rw [noneE_in ha]
    obtain ⟨k, rfl, hk⟩ := inA_nat ha
    obtain ⟨ib, hF, _⟩ := (h.st.inn k hk).ex
    refine (getinst_in k _ h.ls.obj h.ls.i (by omega) hk hF).mono ?_
    rintro e w' ⟨rfl, rfl⟩
    exact ⟨⟨_, rfl, rfl⟩, Kept.refl _ _⟩
theorem r_sizes (h : RAt B lab w rb P v) : Calls Tryz.prog 9 #[.pointer (some ⟨rb, 0, none⟩)] w fun e w' => e = .returned (.agg #[.int .i64 (P.nf : Int), .int .i64 (P.nt : Int), .int .i64 (P.nm : Int), .int .i64 (P.ng : Int), .int .i64 (P.ne : Int), .int .i64 (P.nd : Int), .int .i64 (P.ni : Int)]) ∧ Kept S0 w w' := by
  obtain ⟨A0, A1, A2, A3, A4, A5, A6, c0, c1, c2, c3, c4, c5, c6, hb, _⟩ := RAt.obj h
  exact rsizes_any hb
end
end Go.Proofs.YtlnkdnmeikpckaaGreat
namespace Go.Proofs.YtlnkdnmeikpckaaGreat
open Go.ChangeShapes Go.WideShapes Go.ChangeAt Go.RowKit Go.Joins
set_option maxRecDepth 100000
theorem Tryz.own : ownKnob Tryz.prog.godebug = none := by kernel_rfl
theorem Tryz.laidOut : laidOutB Tryz.prog = true := by kernel_rfl
end Go.Proofs.YtlnkdnmeikpckaaGreat
namespace Go.Proofs.YtlnkdnmeikpckaaGreat
open Go.RowKit
set_option maxRecDepth 100000
def PSt.cnt (P : PSt) (k : Nat) : Nat := match k with
  | 0 => P.nf
  | 1 => P.nt
  | 2 => P.nm
  | 3 => P.ng
  | 4 => P.ne
  | 5 => P.nd
  | _ => P.ni
def PSt.arr (P : PSt) : Array Value := #[.int .i64 (P.nf : Int), .int .i64 (P.nt : Int), .int .i64 (P.nm : Int), .int .i64 (P.ng : Int), .int .i64 (P.ne : Int), .int .i64 (P.nd : Int), .int .i64 (P.ni : Int)]
def PSt.ers (P : PSt) (a : Int) : Array Value := #[.int .i64 (noneE P.nf a), .int .i64 (noneE P.nt a), .int .i64 (noneE P.nm a), .int .i64 (noneE P.ng a), .int .i64 (noneE P.ne a), .int .i64 (noneE P.nd a), .int .i64 (noneE P.ni a)]
theorem PSt.arr_at (P : PSt) {k : Nat} (h : k < 7) : P.arr[k]? = some (.int .i64 (P.cnt k : Int)) := by
  match k, h with
  | 0, _ => rfl
  | 1, _ => rfl
  | 2, _ => rfl
  | 3, _ => rfl
  | 4, _ => rfl
  | 5, _ => rfl
  | 6, _ => rfl
theorem PSt.ers_at (P : PSt) (a : Int) {k : Nat} (h : k < 7) : (P.ers a)[k]? = some (.int .i64 (noneE (P.cnt k) a)) := by
  match k, h with
  | 0, _ => rfl
  | 1, _ => rfl
  | 2, _ => rfl
  | 3, _ => rfl
  | 4, _ => rfl
  | 5, _ => rfl
  | 6, _ => rfl
set_option maxRecDepth 100000 in
set_option maxHeartbeats 6400000 in
theorem none_law (A : Option Addr) (n c : Nat) (D : Nat → Int) (X : Nat → ActP) (a : Int) (w : World) (hl : ActL w A n D X) (hn : n ≤ 9223372036854775806) :
    Calls Tryz.prog 7 #[.slice A n c, .int .i64 a] w fun e w' => e = .returned (.bool true) ∧ Kept S0 w w' := by
  have HL := Lib.hid hl
  clear hl
  go_enter Tryz.func7, Tryz.ntmps7
  go_wp2_with fail
  refine (filled_any A n c D X w HL.out hn).mono ?_
  rintro e w1 ⟨sb, rb, rfl, lab, v, u, P, hs, hr, hb, hP⟩
  have HS := Lib.hid hs
  have HR := Lib.hid hr
  have HK := Lib.hid hb.k
  have HP := Lib.hid (hP.mono (by omega : 30 ≤ 60))
  clear hs hr hb hP
  go_wp2_with fail
  refine (r_sizes HR.out).mono ?_
  rintro e w2 ⟨rfl, hk⟩
  clear HR
  have hal : Kept S0 w1 (w2.alloc (.cells P.arr 43)) := hk.alloc _
  have HN := Lib.hid (Blk.new w2 43 P.arr)
  have HS := Lib.hid (HS.out.kept0 hal)
  have HK := Lib.hid (HK.out.then0 hal)
  clear hk hal
  go_wp2_with fail
  unfold PSt.arr at HN HS HK
  generalize w2.heap.size = nb at *
  generalize (w2.alloc (.cells #[.int .i64 (P.nf : Int), .int .i64 (P.nt : Int), .int .i64 (P.nm : Int), .int .i64 (P.ng : Int), .int .i64 (P.ne : Int), .int .i64 (P.nd : Int), .int .i64 (P.ni : Int)] 43)) = wa at *
  refine (g_func HS.out HP.out a).mono ?_
  rintro e v0 ⟨⟨x0, x1, x2, y0, y1, y2, x3, x4, x5, x6, rfl⟩, hk⟩
  have hal : Kept S0 wa (v0.alloc (.cells #[.slice x0 x1 x2, .slice y0 y1 y2, .bool x3, .string x4, .int .i64 x5, .int .i64 x6] 51)) := (hk.alloc _)
  have HS := Lib.hid (HS.out.kept0 hal)
  have HK := Lib.hid (HK.out.then0 hal)
  have HN := Lib.hid (hal.blk HN.out (fun x => x))
  clear hk hal
  go_wp2_with fail
  generalize (v0.alloc (.cells #[.slice x0 x1 x2, .slice y0 y1 y2, .bool x3, .string x4, .int .i64 x5, .int .i64 x6] 51)) = z0 at *
  refine (g_tab HS.out HP.out a).mono ?_
  rintro e v1 ⟨⟨p1, rfl⟩, hk⟩
  have hal : Kept S0 z0 v1 := hk
  have HS := Lib.hid (HS.out.kept0 hal)
  have HK := Lib.hid (HK.out.then0 hal)
  have HN := Lib.hid (hal.blk HN.out (fun x => x))
  clear hk hal
  go_wp2_with fail
  refine (g_mem HS.out HP.out a).mono ?_
  rintro e v2 ⟨⟨p2, rfl⟩, hk⟩
  have hal : Kept S0 v1 v2 := hk
  have HS := Lib.hid (HS.out.kept0 hal)
  have HK := Lib.hid (HK.out.then0 hal)
  have HN := Lib.hid (hal.blk HN.out (fun x => x))
  clear hk hal
  go_wp2_with fail
  refine (g_glob HS.out HP.out a).mono ?_
  rintro e v3 ⟨⟨y0, y1, y2, y3, y4, rfl⟩, hk⟩
  have hal : Kept S0 v2 ((v3.alloc (.cells #[.int .u8 y0, .bool y1] 33)).alloc (.cells #[.int .u8 y2, .int .u64 y3, .int .u64 y4] 65)) := ((hk.alloc _).alloc _)
  have HS := Lib.hid (HS.out.kept0 hal)
  have HK := Lib.hid (HK.out.then0 hal)
  have HN := Lib.hid (hal.blk HN.out (fun x => x))
  clear hk hal
  go_wp2_with fail
  generalize ((v3.alloc (.cells #[.int .u8 y0, .bool y1] 33)).alloc (.cells #[.int .u8 y2, .int .u64 y3, .int .u64 y4] 65)) = z3 at *
  refine (g_elem HS.out HP.out a).mono ?_
  rintro e v4 ⟨⟨q0, q1, q2, rfl⟩, hk⟩
  have hal : Kept S0 z3 v4 := hk
  have HS := Lib.hid (HS.out.kept0 hal)
  have HK := Lib.hid (HK.out.then0 hal)
  have HN := Lib.hid (hal.blk HN.out (fun x => x))
  clear hk hal
  go_wp2_with fail
  refine (g_data HS.out HP.out a).mono ?_
  rintro e v5 ⟨⟨r0, r1, r2, rfl⟩, hk⟩
  have hal : Kept S0 v4 v5 := hk
  have HS := Lib.hid (HS.out.kept0 hal)
  have HK := Lib.hid (HK.out.then0 hal)
  have HN := Lib.hid (hal.blk HN.out (fun x => x))
  clear hk hal
  go_wp2_with fail
  refine (g_inst HS.out HP.out a).mono ?_
  rintro e v6 ⟨⟨p6, rfl, hp6⟩, hk⟩
  have hal : Kept S0 v5 (v6.alloc (.cells (P.ers a) 46)) := hk.alloc _
  have HE := Lib.hid (Blk.new v6 46 (P.ers a))
  have HS := Lib.hid (HS.out.kept0 hal)
  have HK := Lib.hid (HK.out.then0 hal)
  have HN := Lib.hid (hal.blk HN.out (fun x => x))
  have HP6 := Lib.hid hp6
  clear hk hal hp6
  go_wp2_with fail
  unfold PSt.ers at HE HS HK HN
  generalize v6.heap.size = eb at *
  generalize (v6.alloc (.cells #[.int .i64 (noneE P.nf a), .int .i64 (noneE P.nt a), .int .i64 (noneE P.nm a), .int .i64 (noneE P.ng a), .int .i64 (noneE P.ne a), .int .i64 (noneE P.nd a), .int .i64 (noneE P.ni a)] 46)) = wb at *
  go_loopw [25] (fun i wr => ∃ k : Nat, k ≤ 7 ∧ i = .int .i64 (k : Int) ∧ Kept S0 wb wr) (fun i _ => 7 - (intOf i).toNat)
  case atStart => exact ⟨0, by omega, rfl, Kept.refl _ _⟩
  case round =>
    obtain ⟨k, hk, rfl, hkw⟩ := hrel
    have HKW := Lib.hid hkw
    clear hkw
    by_cases hlt : k < 7
    · have qe : wr.cell? ⟨eb, k, none⟩ = some (.int .i64 (noneE (P.cnt k) a)) := keep0 HKW.out ((HE.out.cell k).trans (P.ers_at a hlt))
      have qn : wr.cell? ⟨nb, k, none⟩ = some (.int .i64 (P.cnt k : Int)) := keep0 HKW.out ((HN.out.cell k).trans (P.arr_at hlt))
      generalize hcn : P.cnt k = cn at *
      clear hcn
      have i0 : (0 : Int) ≤ (k : Int) := by omega
      have i7 : (k : Int) < 7 := by omega
      cases ha : inA a cn with
      | true =>
        rw [noneE_in ha] at qe
        have HC : ∀ w, Calls Tryz.prog 27 #[.int .i64 a, .int .i64 (cn : Int)] w fun e w' => e = .returned (.bool true) ∧ w' = w := fun w => by have h := there_any a cn w; rw [ha] at h; exact h.mono fun _ _ ⟨x, y⟩ => ⟨x, y.symm⟩
        clear ha
        go_upto_region 16 with fail
        go_quiet ((go_at_call 27; exact Calls.quiet_of_same (HC _)))
        go_wp2_with fail
        go_roundw
        case rel => exact ⟨k + 1, by omega, by go_num, HKW.out.drewN _⟩
        case measure => simp [intOf]; omega
      | false =>
        rw [noneE_out ha] at qe
        have HC : ∀ w, Calls Tryz.prog 27 #[.int .i64 a, .int .i64 (cn : Int)] w fun e w' => e = .returned (.bool false) ∧ w' = w := fun w => by have h := there_any a cn w; rw [ha] at h; exact h.mono fun _ _ ⟨x, y⟩ => ⟨x, y.symm⟩
        clear ha
        go_upto_region 16 with fail
        go_quiet ((go_at_call 27; exact Calls.quiet_of_same (HC _)))
        go_wp2_with fail
        go_roundw
        case rel => exact ⟨k + 1, by omega, by go_num, HKW.out.drewN _⟩
        case measure => simp [intOf]; omega
    · obtain rfl : k = 7 := by omega
      have HSR := Lib.hid (HS.out.kept0 HKW.out)
      have HKR := Lib.hid (HK.out.then0 HKW.out)
      have hp6 := HP6.out
      clear HP6
      cases hi : inA a P.ni with
      | true =>
        rw [noneE_in hi] at *
        rw [hi] at hp6
        obtain ⟨q, rfl⟩ : ∃ q, p6 = some q := by cases p6 with
          | none => simp at hp6
          | some q => exact ⟨q, rfl⟩
        clear hp6 hi
        go_wp2_with fail
        refine (drop_other 0 a HSR.out.ls.obj rfl rfl).mono ?_
        rintro e u1 ⟨rfl, rfl⟩
        go_wp2_with fail
        refine (drop_other 7 a HSR.out.ls.obj rfl rfl).mono ?_
        rintro e u2 ⟨rfl, rfl⟩
        go_wp2_with fail
        refine (lives_any _).mono ?_
        rintro e u3 ⟨rfl, hk3⟩
        have HKF := Lib.hid (HKR.out.then0 hk3)
        clear hk3
        go_wp2_with fail
        go_ret
        exact ⟨rfl, HKF.out⟩
      | false =>
        rw [noneE_out hi] at *
        rw [hi] at hp6
        obtain rfl : p6 = none := by cases p6 with
          | none => rfl
          | some q => simp at hp6
        clear hp6 hi
        go_wp2_with fail
        refine (drop_other 0 a HSR.out.ls.obj rfl rfl).mono ?_
        rintro e u1 ⟨rfl, rfl⟩
        go_wp2_with fail
        refine (drop_other 7 a HSR.out.ls.obj rfl rfl).mono ?_
        rintro e u2 ⟨rfl, rfl⟩
        go_wp2_with fail
        refine (lives_any _).mono ?_
        rintro e u3 ⟨rfl, hk3⟩
        have HKF := Lib.hid (HKR.out.then0 hk3)
        clear hk3
        go_wp2_with fail
        go_ret
        exact ⟨rfl, HKF.out⟩
end Go.Proofs.YtlnkdnmeikpckaaGreat
namespace Go.Proofs.YtlnkdnmeikpckaaGreat
open Go.ChangeShapes Go.WideShapes Go.ChangeAt Go.RowKit Go.Joins
set_option maxRecDepth 100000
set_option maxRecDepth 100000 in
set_option maxHeartbeats 1600000 in
theorem storeNone_lifted (os : Os) (started : os.Started) (H : Type) (enc : TypeId × Value → H) :
    ReturnsInHanded {} Tryz.checked os 7 .any (Rows.storeNoneSpec.pre6 enc Tryz.prog Tryz.f7 Rows.storeNoneRow.domain false) (Rows.storeNoneSpec.post enc Tryz.prog Tryz.f7 false true false false) := by
  refine returnsInHanded_of_change_sized (C := Tryz.checked) Tryz.own started (by kernel_rfl) Tryz.func7
    (ChangeSpec.witness6 (enc := enc) (C := Tryz.checked) false ⟨#[], #[.slice none 0 0, .int .i64 0], []⟩ 8 (by kernel_rfl) (by kernel_rfl) (by kernel_rfl) (by kernel_rfl)) ?_
  intro W base args ds gs before hval0 hW hcnd hsz0 _
  have hsz : (DataW.weightsEach Tryz.prog (Tryz.f7.params.toList ++ Rows.storeNoneSpec.plain.varTypes Tryz.prog) (ds ++ gs)).all (· ≤ reachBytes) = true := hsz0
  clear hsz0
  have hval : ∀ (j : Nat) t v, Tryz.f7.params[j]? = some t → args[j]? = some v → Value.okWide Tryz.prog W .any base t v := hval0
  have hW' := hW
  obtain ⟨p, q, hA0, hV, rfl, hfz, hnd⟩ := hW
  have hA : DataW.TrodAll enc Tryz.prog W 0 (fun _ => true) true Tryz.f7.params.toList args.toList ds p := hA0
  rw [Tryz.params7] at hA hval hsz
  have hrd := fun j t v => rd_params (ts2 := Rows.storeNoneSpec.plain.varTypes Tryz.prog) (gs := gs) hA j t v
  have hws : ∀ q ∈ DataW.weightsEach Tryz.prog (_ ++ Rows.storeNoneSpec.plain.varTypes Tryz.prog) (ds ++ gs), q ≤ reachBytes := fun q hq => of_decide_eq_true (List.all_eq_true.1 hsz q hq)
  obtain ⟨v0, vs0, d0, ds0, p0, q0, hargs0, rfl, rfl, h0, r0⟩ := trodAll_cons hA
  obtain ⟨v1, vs1, d1, ds1, p1, q1, hargs1, rfl, rfl, h1, r1⟩ := trodAll_cons r0
  obtain ⟨hargsN, rfl, rfl⟩ := trodAll_nil r1
  obtain rfl : args = #[v0, v1] := by
    apply Array.toList_inj.1
    rw [hargs0, hargs1, hargsN]
  obtain ⟨rfl, rfl⟩ := trodVars_none hV
  have g0 := hrd 0 22 v0 rfl rfl
  obtain ⟨l_A, l_n, l_c, hv0⟩ := okWide_slice Tryz.underlying22 (hval 0 22 v0 rfl rfl)
  subst hv0
  have g1 := hrd 1 3 v1 rfl rfl
  obtain ⟨a, rfl, rfl, rfl, w1⟩ := open_int Tryz.underlying3 (hval 1 3 v1 rfl rfl) h1
  have b1 := bounds_i64 w1
  obtain ⟨D, X, hacts, hlen⟩ := actl_of_rd hws g0
  refine (none_law l_A l_n l_c D X a W hacts hlen).mono fun e W' ⟨he, hk⟩ => ?_
  subst he
  refine ⟨_, rfl, post_law Tryz.laidOut ?_ hW' rfl Tryz.underlying4 (by kernel_rfl) rfl hk.below0⟩
  rw [Tryz.params7]
  intro t ht
  simp at ht
  rcases ht with rfl | rfl <;> exact ⟨by kernel_rfl, of_decide_eq_true (by kernel_rfl)⟩
theorem storeNone_holds : Rows.StoreNoneSaid :=
  OpenClaim.holds_of_wide 7 Tryz.f7 rfl rfl rfl rfl rfl rfl rfl ⟨rfl, rfl, rfl, rfl, rfl⟩ rfl rfl rfl rfl rfl (by kernel_rfl) Tryz.func7 (by kernel_rfl)
    (of_decide_eq_true (by kernel_rfl)) (by unfold Func.isWrapper; rw [if_neg (of_decide_eq_false (by kernel_rfl))]; exact ⟨rfl, rfl⟩)
    (fun os started H enc _ => storeNone_lifted os started H enc)
end Go.Proofs.YtlnkdnmeikpckaaGreat
