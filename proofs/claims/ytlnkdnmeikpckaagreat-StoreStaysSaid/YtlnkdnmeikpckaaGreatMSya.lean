/- Whatever the input, StoreStays returns true and its arguments read as they did. No condition. -/
import Derived.Test.YtlnkdnmeikpckaaGreatMSta
import Derived.Test.YtlnkdnmeikpckaaGreatMStb
import Derived.Test.YtlnkdnmeikpckaaGreatMStd
import Derived.Test.YtlnkdnmeikpckaaGreatMSte
import Derived.Test.YtlnkdnmeikpckaaGreatMStf
import Derived.Test.YtlnkdnmeikpckaaGreatMStg
import Derived.Test.YtlnkdnmeikpckaaGreatMSth
import Derived.Test.YtlnkdnmeikpckaaGreatMStj
import Derived.Test.YtlnkdnmeikpckaaGreatMStl
import Derived.Test.YtlnkdnmeikpckaaGreatMStm
import Derived.WalkKit
import Derived.WalkSpells
import Derived.WalkLawsBesides
import Derived.BigQuiet
import Derived.Deep.QuietTactic
import Derived.Deep.OwnRows
import Derived.Deep.Draws
import Derived.Laws.OwnMore
import Derived.Laws.Rows
import Derived.Lib.Hide
import Derived.StillTailTactics
import Derived.Test.YtlnkdnmeikpckaaGreatRows
import Derived.ProofKit
import Derived.SizedLaws
import Derived.Lib.SmallJoins
import Derived.Deep.DeepCutAuto
import Derived.Outline
namespace Go.Proofs.YtlnkdnmeikpckaaGreat
open Go.RowKit
set_option maxRecDepth 100000
section
variable {S S' : Nat → Prop} {a w w' : World}
theorem Kept.below (h : Kept S a w) {B : Nat} (hB : B ≤ a.heap.size) (hs : ∀ k, S k → B ≤ k) : Below B a w :=
  ⟨h.os, h.tape, h.output, h.size, fun k hk => h.block k (by omega) (fun x => by have := hs k x; omega)⟩
theorem Kept.below0 (h : Kept S0 a w) : Below a.heap.size a w := h.below (Nat.le_refl _) (fun _ x => x.elim)
end
end Go.Proofs.YtlnkdnmeikpckaaGreat
namespace Go.Proofs.YtlnkdnmeikpckaaGreat
open Go.RowKit
set_option maxRecDepth 100000
section
variable {w : World} {sb B n : Nat} {fl tl ml gl el dl il : Value} {F : Nat → Value}
set_option maxRecDepth 100000 in
set_option maxHeartbeats 3200000 in
theorem getglob_in (a : Nat) (gt : Int) (gm : Bool) (t lo hi : Int) (hb : Blk w sb 132 (stCells fl tl ml gl el dl il)) (hown : Own w B 149 5 AnyV gl n F) (hn : n ≤ 65536) (ha : a < n) (f0 : F (a * 5) = .int .u8 gt) (f1 : F (a * 5 + 1) = .bool gm) (f2 : F (a * 5 + 2) = .int .u8 t) (f3 : F (a * 5 + 3) = .int .u64 lo) (f4 : F (a * 5 + 4) = .int .u64 hi) :
    Calls Tryz.prog 20 #[.pointer (some ⟨sb, 0, none⟩), .int .i64 (a : Int)] w fun e w' => e = .returned (.tuple #[.agg #[.int .u8 gt, .bool gm], .agg #[.int .u8 t, .int .u64 lo, .int .u64 hi], .int .i64 0]) ∧ Kept S0 w w' := by
  obtain ⟨g, fc, hfl, _, _⟩ := hown.is_some (by omega)
  subst hfl
  have hka : Kept S0 w ((w.alloc (.cells #[.int .u8 0, .bool false] 33)).alloc (.cells #[.int .u8 0, .int .u64 0, .int .u64 0] 65)) := ((Kept.refl S0 w).alloc _).alloc _
  have hb1 := hka.blk hb (fun x => x)
  have ho1 := hown.kept hka (fun _ _ x => x)
  have c0 : ((w.alloc (.cells #[.int .u8 0, .bool false] 33)).alloc (.cells #[.int .u8 0, .int .u64 0, .int .u64 0] 65)).cell? ⟨sb, 0, none⟩ = some (.bool true) := hb1.cell 0
  have c1 : ((w.alloc (.cells #[.int .u8 0, .bool false] 33)).alloc (.cells #[.int .u8 0, .int .u64 0, .int .u64 0] 65)).cell? ⟨sb, 4, none⟩ = some (.slice (some ⟨g, 0, none⟩) n fc) := hb1.cell 4
  have g0 := (ho1.rowcell (j := a * 5) (by omega)).trans (congrArg some f0)
  have g1 := (ho1.rowcell (j := a * 5 + 1) (by omega)).trans (congrArg some f1)
  have g2 := (ho1.rowcell (j := a * 5 + 2) (by omega)).trans (congrArg some f2)
  have g3 := (ho1.rowcell (j := a * 5 + 3) (by omega)).trans (congrArg some f3)
  have g4 := (ho1.rowcell (j := a * 5 + 4) (by omega)).trans (congrArg some f4)
  have HB0 := Lib.hid ((Blk.new w 33 #[.int .u8 0, .bool false]).alloc (.cells #[.int .u8 0, .int .u64 0, .int .u64 0] 65))
  have HB1 := Lib.hid (Blk.new1 w (.cells #[.int .u8 0, .bool false] 33) 65 #[.int .u8 0, .int .u64 0, .int .u64 0])
  have HG := Lib.hid (show g < w.heap.size from (hown.lt g rfl).2)
  have HK := Lib.hid hka
  clear hb hown hb1 ho1 hka f0 f1 f2 f3 f4
  go_enter Tryz.func20, Tryz.ntmps20
  go_wp2_with fail
  refine (off_made _ _ c0).mono ?_
  rintro e w1 ⟨rfl, rfl⟩
  go_wp2_with fail
  refine (at_GLOB_in a g c1 hn ha).mono ?_
  rintro e w1 ⟨rfl, rfl⟩
  clear c0 c1
  go_wp2_with fail
  generalize (w.alloc (.cells #[.int .u8 0, .bool false] 33)).alloc (.cells #[.int .u8 0, .int .u64 0, .int .u64 0] 65) = w1 at *
  generalize hbx : w.heap.size = bx at *
  have hS : w1.drew.cell? ⟨g, a * 5, none⟩ = some (.int .u8 gt) ∧ w1.drew.cell? ⟨g, a * 5 + 1, none⟩ = some (.bool gm) ∧ w1.drew.cell? ⟨g, a * 5 + 2, none⟩ = some (.int .u8 t) ∧ w1.drew.cell? ⟨g, a * 5 + 2 + 1, none⟩ = some (.int .u64 lo) ∧ w1.drew.cell? ⟨g, a * 5 + 2 + 2, none⟩ = some (.int .u64 hi) := ⟨g0, g1, g2, g3, g4⟩
  refine wp_region_R (fun w' => w'.cell? ⟨g, a * 5, none⟩ = some (.int .u8 gt) ∧ w'.cell? ⟨g, a * 5 + 1, none⟩ = some (.bool gm) ∧ w'.cell? ⟨g, a * 5 + 2, none⟩ = some (.int .u8 t) ∧ w'.cell? ⟨g, a * 5 + 2 + 1, none⟩ = some (.int .u64 lo) ∧ w'.cell? ⟨g, a * 5 + 2 + 2, none⟩ = some (.int .u64 hi)) [] (by kernel_rfl) ?_
  have hB0 := HB0.out.drew
  have hB1 := HB1.out.drew
  have hgx := HG.out
  have HKD := Lib.hid HK.out.drew
  generalize w1.drew = w2 at *
  clear g0 g1 g2 g3 g4 HB0 HB1 HK
  (first | (refine tkR 0 (v := ?_) rfl hS ⟨by rfl, ?_⟩ ?_; rotate_left; intro w h; (try dsimp only at h); first | (go_simp; done) | (go_simp; with_reducible rfl)) | refine skR 0 rfl (fun _ => hS) (by rfl) ?_); simp only [zq1, zq2, Act.put, zq4, zq5, zq6]
  (first | (refine tkR 1 (v := ?_) rfl hS ⟨by rfl, ?_⟩ ?_; rotate_left; intro w h; (try dsimp only at h); first | (go_simp; done) | (go_simp; with_reducible rfl)) | refine skR 1 rfl (fun _ => hS) (by rfl) ?_); simp only [zq1, zq2, zq3, Act.put, zq4, zq5, zq6]
  (first | (refine tkR 2 (v := ?_) rfl hS ⟨by rfl, ?_⟩ ?_; rotate_left; intro w h; (try dsimp only at h); first | (go_simp; done) | (go_simp; with_reducible rfl)) | refine skR 2 rfl (fun _ => hS) (by rfl) ?_); simp only [zq1, zq2, zq3, Act.put, zq4, zq5, zq6]
  (first | (refine tkR 3 (v := ?_) rfl hS ⟨by rfl, ?_⟩ ?_; rotate_left; intro w h; (try dsimp only at h); first | (go_simp; done) | (go_simp; with_reducible rfl)) | refine skR 3 rfl (fun _ => hS) (by rfl) ?_); simp only [zq1, zq2, zq3, Act.put, zq4, zq5, zq6]
  (first | (refine tkR 4 (v := ?_) rfl hS ⟨by rfl, ?_⟩ ?_; rotate_left; intro w h; (try dsimp only at h); first | (go_simp; done) | (go_simp; with_reducible rfl)) | refine skR 4 rfl (fun _ => hS) (by rfl) ?_); simp only [zq1, zq2, zq3, Act.put, zq4, zq5, zq6]
  (first | (refine tkR 5 (v := ?_) rfl hS ⟨by rfl, ?_⟩ ?_; rotate_left; intro w h; (try dsimp only at h); first | (go_simp; done) | (go_simp; with_reducible rfl)) | refine skR 5 rfl (fun _ => hS) (by rfl) ?_); simp only [zq1, zq2, zq3, Act.put, zq4, zq5, zq6]
  (first | (refine tkR 6 (v := ?_) rfl hS ⟨by rfl, ?_⟩ ?_; rotate_left; intro w h; (try dsimp only at h); first | (go_simp; done) | (go_simp; with_reducible rfl)) | refine skR 6 rfl (fun _ => hS) (by rfl) ?_); simp only [zq1, zq2, zq3, Act.put, zq4, zq5, zq6]
  (first | (refine tkR 7 (v := ?_) rfl hS ⟨by rfl, ?_⟩ ?_; rotate_left; intro w h; (try dsimp only at h); first | (go_simp; done) | (go_simp; with_reducible rfl)) | refine skR 7 rfl (fun _ => hS) (by rfl) ?_); simp only [zq1, zq2, zq3, Act.put, zq4, zq5, zq6]
  have q0 := hB0.cell 0
  have q1 := hB0.cell 1
  have q2 := hB0.frozen 0
  have q3 := hB0.frozen 1
  refine wpAnyR_one 8 rfl (by kernel_rfl) (fun K hK8 => ?_)
  go_simp
  have hs3 : Kept (S1 bx) w2 ((w2.setCell ⟨bx, 0, none⟩ (.int .u8 gt)).setCell ⟨bx, 1, none⟩ (.bool gm)) := ((Kept.refl (S1 bx) w2).setCell (p := ⟨bx, 0, none⟩) (.inl rfl) _).setCell (p := ⟨bx, 1, none⟩) (.inl rfl) _
  have hb3 : Blk ((w2.setCell ⟨bx, 0, none⟩ (.int .u8 gt)).setCell ⟨bx, 1, none⟩ (.bool gm)) bx 33 #[.int .u8 gt, .bool gm] := (hB0.set_ 0 (.int .u8 gt)).set_ 1 (.bool gm)
  have hv3 := hs3.blk hB1 (fun e => by have e' : bx + 1 = bx := e; omega)
  have hcell : ∀ j v, w2.cell? ⟨g, j, none⟩ = some v → ((w2.setCell ⟨bx, 0, none⟩ (.int .u8 gt)).setCell ⟨bx, 1, none⟩ (.bool gm)).cell? ⟨g, j, none⟩ = some v := fun j v h => (hs3.cell (p := ⟨g, j, none⟩) (World.block_lt_of_cell? _ _ h) (fun e => by have e' : g = bx := e; omega)).trans h
  refine hK8.out _ _ (fun _ => ⟨hcell _ _ hS.1, hcell _ _ hS.2.1, hcell _ _ hS.2.2.1, hcell _ _ hS.2.2.2.1, hcell _ _ hS.2.2.2.2⟩) ?_
  clear hK8 K
  have hS3 : ((w2.setCell ⟨bx, 0, none⟩ (.int .u8 gt)).setCell ⟨bx, 1, none⟩ (.bool gm)).cell? ⟨g, a * 5, none⟩ = some (.int .u8 gt) ∧ ((w2.setCell ⟨bx, 0, none⟩ (.int .u8 gt)).setCell ⟨bx, 1, none⟩ (.bool gm)).cell? ⟨g, a * 5 + 1, none⟩ = some (.bool gm) ∧ ((w2.setCell ⟨bx, 0, none⟩ (.int .u8 gt)).setCell ⟨bx, 1, none⟩ (.bool gm)).cell? ⟨g, a * 5 + 2, none⟩ = some (.int .u8 t) ∧ ((w2.setCell ⟨bx, 0, none⟩ (.int .u8 gt)).setCell ⟨bx, 1, none⟩ (.bool gm)).cell? ⟨g, a * 5 + 2 + 1, none⟩ = some (.int .u64 lo) ∧ ((w2.setCell ⟨bx, 0, none⟩ (.int .u8 gt)).setCell ⟨bx, 1, none⟩ (.bool gm)).cell? ⟨g, a * 5 + 2 + 2, none⟩ = some (.int .u64 hi) := ⟨hcell _ _ hS.1, hcell _ _ hS.2.1, hcell _ _ hS.2.2.1, hcell _ _ hS.2.2.2.1, hcell _ _ hS.2.2.2.2⟩
  have HK3 := Lib.hid (HKD.out.trans_ hs3 (fun i e => .inr (by have e' : i = bx := e; omega)))
  clear hcell hs3 hS q0 q1 q2 q3 hB0 hB1 HKD
  generalize (w2.setCell ⟨bx, 0, none⟩ (.int .u8 gt)).setCell ⟨bx, 1, none⟩ (.bool gm) = w3 at *
  have q0 := hv3.cell 0
  have q1 := hv3.cell 1
  have q2 := hv3.cell 2
  have r0 := hv3.frozen 0
  have r1 := hv3.frozen 1
  have r2 := hv3.frozen 2
  refine wpAnyR_one 9 rfl (by kernel_rfl) (fun K hK9 => ?_)
  go_simp
  have hs4 : Kept (S1 (bx + 1)) w3 (((w3.setCell ⟨bx + 1, 0, none⟩ (.int .u8 t)).setCell ⟨bx + 1, 1, none⟩ (.int .u64 lo)).setCell ⟨bx + 1, 2, none⟩ (.int .u64 hi)) := (((Kept.refl (S1 (bx + 1)) w3).setCell (p := ⟨bx + 1, 0, none⟩) (.inl rfl) _).setCell (p := ⟨bx + 1, 1, none⟩) (.inl rfl) _).setCell (p := ⟨bx + 1, 2, none⟩) (.inl rfl) _
  have hv4 : Blk (((w3.setCell ⟨bx + 1, 0, none⟩ (.int .u8 t)).setCell ⟨bx + 1, 1, none⟩ (.int .u64 lo)).setCell ⟨bx + 1, 2, none⟩ (.int .u64 hi)) (bx + 1) 65 #[.int .u8 t, .int .u64 lo, .int .u64 hi] := ((hv3.set_ 0 (.int .u8 t)).set_ 1 (.int .u64 lo)).set_ 2 (.int .u64 hi)
  have hb4 := hs4.blk hb3 (fun e => by have e' : bx = bx + 1 := e; omega)
  have hcell : ∀ j v, w3.cell? ⟨g, j, none⟩ = some v → (((w3.setCell ⟨bx + 1, 0, none⟩ (.int .u8 t)).setCell ⟨bx + 1, 1, none⟩ (.int .u64 lo)).setCell ⟨bx + 1, 2, none⟩ (.int .u64 hi)).cell? ⟨g, j, none⟩ = some v := fun j v h => (hs4.cell (p := ⟨g, j, none⟩) (World.block_lt_of_cell? _ _ h) (fun e => by have e' : g = bx + 1 := e; omega)).trans h
  have HK4 := Lib.hid (HK3.out.trans_ hs4 (fun i e => .inr (by have e' : i = bx + 1 := e; omega)))
  have hS4 : (((w3.setCell ⟨bx + 1, 0, none⟩ (.int .u8 t)).setCell ⟨bx + 1, 1, none⟩ (.int .u64 lo)).setCell ⟨bx + 1, 2, none⟩ (.int .u64 hi)).cell? ⟨g, a * 5, none⟩ = some (.int .u8 gt) ∧ (((w3.setCell ⟨bx + 1, 0, none⟩ (.int .u8 t)).setCell ⟨bx + 1, 1, none⟩ (.int .u64 lo)).setCell ⟨bx + 1, 2, none⟩ (.int .u64 hi)).cell? ⟨g, a * 5 + 1, none⟩ = some (.bool gm) ∧ (((w3.setCell ⟨bx + 1, 0, none⟩ (.int .u8 t)).setCell ⟨bx + 1, 1, none⟩ (.int .u64 lo)).setCell ⟨bx + 1, 2, none⟩ (.int .u64 hi)).cell? ⟨g, a * 5 + 2, none⟩ = some (.int .u8 t) ∧ (((w3.setCell ⟨bx + 1, 0, none⟩ (.int .u8 t)).setCell ⟨bx + 1, 1, none⟩ (.int .u64 lo)).setCell ⟨bx + 1, 2, none⟩ (.int .u64 hi)).cell? ⟨g, a * 5 + 2 + 1, none⟩ = some (.int .u64 lo) ∧ (((w3.setCell ⟨bx + 1, 0, none⟩ (.int .u8 t)).setCell ⟨bx + 1, 1, none⟩ (.int .u64 lo)).setCell ⟨bx + 1, 2, none⟩ (.int .u64 hi)).cell? ⟨g, a * 5 + 2 + 2, none⟩ = some (.int .u64 hi) := ⟨hcell _ _ hS3.1, hcell _ _ hS3.2.1, hcell _ _ hS3.2.2.1, hcell _ _ hS3.2.2.2.1, hcell _ _ hS3.2.2.2.2⟩
  refine hK9.out _ _ (fun _ => ⟨hcell _ _ hS3.1, hcell _ _ hS3.2.1, hcell _ _ hS3.2.2.1, hcell _ _ hS3.2.2.2.1, hcell _ _ hS3.2.2.2.2⟩) ?_
  clear hK9 K hS3 hcell hs4 q0 q1 q2 r0 r1 r2 hv3 hb3 HK3
  generalize ((w3.setCell ⟨bx + 1, 0, none⟩ (.int .u8 t)).setCell ⟨bx + 1, 1, none⟩ (.int .u64 lo)).setCell ⟨bx + 1, 2, none⟩ (.int .u64 hi) = w4 at *
  refine wpAnyR_one 10 rfl (by kernel_rfl) (fun K hK10 => ?_)
  go_simp
  refine hK10.out _ _ (fun _ => hS4) ?_
  clear hK10 K hS4
  refine wpAnyR_done (by kernel_rfl) ?_ _
  have u0 := hb4.cell 0
  have u1 := hb4.cell 1
  have u2 := hv4.cell 0
  have u3 := hv4.cell 1
  have u4 := hv4.cell 2
  go_wp2_with fail
  exact bodyPost_ret (v := .tuple #[.agg #[.int .u8 gt, .bool gm], .agg #[.int .u8 t, .int .u64 lo, .int .u64 hi], .int .i64 0]) (by simp [results, Tryz.results20, go_sem, u0, u1, u2, u3, u4]) rfl ⟨rfl, HK4.out⟩
end
end Go.Proofs.YtlnkdnmeikpckaaGreat
namespace Go.Proofs.YtlnkdnmeikpckaaGreat
open Go.ChangeShapes Go.WideShapes Go.ChangeAt Go.RowKit Go.Joins
set_option maxRecDepth 100000
theorem Tryz.own : ownKnob Tryz.prog.godebug = none := by kernel_rfl
theorem Tryz.laidOut : laidOutB Tryz.prog = true := by kernel_rfl
end Go.Proofs.YtlnkdnmeikpckaaGreat
namespace Go.Proofs.YtlnkdnmeikpckaaGreat
open Go.RowKit
set_option maxRecDepth 100000
def PSt.cnt (P : PSt) (k : Nat) : Nat := match k with
  | 0 => P.nf
  | 1 => P.nt
  | 2 => P.nm
  | 3 => P.ng
  | 4 => P.ne
  | 5 => P.nd
  | _ => P.ni
def PSt.arr (P : PSt) : Array Value := #[.int .i64 (P.nf : Int), .int .i64 (P.nt : Int), .int .i64 (P.nm : Int), .int .i64 (P.ng : Int), .int .i64 (P.ne : Int), .int .i64 (P.nd : Int), .int .i64 (P.ni : Int)]
theorem PSt.arr_at (P : PSt) {k : Nat} (h : k < 7) : P.arr[k]? = some (.int .i64 (P.cnt k : Int)) := by
  match k, h with
  | 0, _ => rfl
  | 1, _ => rfl
  | 2, _ => rfl
  | 3, _ => rfl
  | 4, _ => rfl
  | 5, _ => rfl
  | 6, _ => rfl
end Go.Proofs.YtlnkdnmeikpckaaGreat
namespace Go.Proofs.YtlnkdnmeikpckaaGreat
open Go.RowKit
set_option maxRecDepth 100000
/-- A store that has what another one has, and perhaps more. -/
structure Ext (P Q : PSt) : Prop where
  f : P.nf ≤ Q.nf
  t : P.nt ≤ Q.nt
  m : P.nm ≤ Q.nm
  g : P.ng ≤ Q.ng
  e : P.ne ≤ Q.ne
  d : P.nd ≤ Q.nd
  i : P.ni ≤ Q.ni
  G : ∀ j, j < P.ng → Q.G j = P.G j
theorem Ext.refl (P : PSt) : Ext P P := ⟨Nat.le_refl _, Nat.le_refl _, Nat.le_refl _, Nat.le_refl _, Nat.le_refl _, Nat.le_refl _, Nat.le_refl _, fun _ _ => rfl⟩
theorem Ext.trans {P Q R : PSt} (h : Ext P Q) (k : Ext Q R) : Ext P R :=
  ⟨Nat.le_trans h.f k.f, Nat.le_trans h.t k.t, Nat.le_trans h.m k.m, Nat.le_trans h.g k.g, Nat.le_trans h.e k.e, Nat.le_trans h.d k.d, Nat.le_trans h.i k.i, fun j hj => (k.G j (Nat.lt_of_lt_of_le hj h.g)).trans (h.G j hj)⟩
theorem Ext.cnt {P Q : PSt} (h : Ext P Q) (k : Nat) : P.cnt k ≤ Q.cnt k := by
  unfold PSt.cnt
  split
  · exact h.f
  · exact h.t
  · exact h.m
  · exact h.g
  · exact h.e
  · exact h.d
  · exact h.i
theorem ext_add (P : PSt) (d : Int) (x : ActP) : Ext P (addP P d x).2.2 := by
  unfold addP addF addT addM addG addE addD addI
  repeat' split
  all_goals first | exact Ext.refl P | (refine ⟨?_, ?_, ?_, ?_, ?_, ?_, ?_, fun j hj => ?_⟩ <;> simp only [PSt.pushF, PSt.pushT, PSt.pushM, PSt.pushG, PSt.pushE, PSt.pushD, PSt.pushI] <;> first | omega | exact upd_ne _ _ (by omega))
theorem Tryz.infoVALX : (Tryz.prog.info? 65).map (fun i => (i.size, i.bytes, i.zero.map (fun z => z.cells.size))) = some (3, 24, some 3) := by kernel_rfl
/-- An empty document's store, of its own. -/
theorem rat_new {B rb : Nat} {lab : Nat → Nat} {w : World} (hb : Blk w rb 89 (rCells (.slice none 0 0) (.slice none 0 0) (.slice none 0 0) (.slice none 0 0) (.slice none 0 0) (.slice none 0 0) (.slice none 0 0))) (hB : B ≤ rb) (hl : lab rb = 2) : RAt B lab w rb PSt.zero SV.zero :=
  ⟨⟨hb, hl, hB, own_zero, own_zero, own_zero, own_zero, own_zero, own_zero, own_zero, noB, noB, noB, noB, noB, noB, noB⟩,
   ⟨fun i hi => absurd hi (Nat.not_lt_zero i), fun i hi => absurd hi (Nat.not_lt_zero i), fun i hi => absurd hi (Nat.not_lt_zero i), fun i hi => absurd hi (Nat.not_lt_zero i), fun i hi => absurd hi (Nat.not_lt_zero i)⟩, fun i hi => absurd hi (Nat.not_lt_zero i), fun i hi => absurd hi (Nat.not_lt_zero i)⟩
/-- Behind some acts more. -/
def More (w0 : World) (sb nb : Nat) (wv : Value) (B' : Nat) (P : PSt) (k : Nat) (w : World) : Prop :=
  ∃ lab v Q, SAt w0.heap.size lab w sb Q v ∧ Bas w0 lab w ∧ Q.Le (30 + k) ∧ Ext P Q ∧ Blk w nb 43 P.arr ∧ lab nb = 0 ∧ Own w B' 65 3 AnyV wv P.ng (vcell (fun q => (P.G q).x)) ∧ ∀ g, wv.ownBlock = some g → lab g = 0
theorem More.mono {w0 w : World} {sb nb B' k j : Nat} {wv : Value} {P : PSt} (h : More w0 sb nb wv B' P k w) (hj : k ≤ j) : More w0 sb nb wv B' P j w := by
  obtain ⟨lab, v, Q, h1, h2, h3, h4⟩ := h
  exact ⟨lab, v, Q, h1, h2, h3.mono (by omega), h4⟩
set_option maxRecDepth 100000 in
set_option maxHeartbeats 12800000 in
theorem stays_law (A : Option Addr) (n c : Nat) (D : Nat → Int) (X : Nat → ActP) (A2 : Option Addr) (m c2 : Nat) (D2 : Nat → Int) (X2 : Nat → ActP) (w : World) (hl : ActL w A n D X) (hn : n ≤ 9223372036854775806) (hl2 : ActL w A2 m D2 X2) (hm : m ≤ 9223372036854775806) :
    Calls Tryz.prog 6 #[.slice A n c, .slice A2 m c2] w fun e w' => e = .returned (.bool true) ∧ Kept S0 w w' := by
  have HL := Lib.hid hl
  have HL2 := Lib.hid hl2
  clear hl hl2
  obtain ⟨z, hinfo, hzs⟩ := info_ex Tryz.infoVALX
  have HI := Lib.hid hinfo
  have HZ := Lib.hid hzs
  clear hinfo hzs
  go_enter Tryz.func6, Tryz.ntmps6
  go_wp2_with fail
  refine (filled_any A n c D X w HL.out hn).mono ?_
  rintro e w1 ⟨sb, rb, rfl, lab, v, u, P, hs, hr, hb, hP⟩
  have HS := Lib.hid hs
  have HBA := Lib.hid hb
  have HP := Lib.hid hP
  clear hs hr hb hP HL
  go_wp2_with fail
  refine (s_sizes HS.out).mono ?_
  rintro e w2 ⟨rfl, hk⟩
  have hal : Kept S0 w1 (w2.alloc (.cells P.arr 43)) := hk.alloc _
  have HN := Lib.hid (Blk.new w2 43 P.arr)
  have HLN := Lib.hid (lab0_new (lab := lab) (show w1.heap.size ≤ w2.heap.size from hk.size))
  have HLZ := Lib.hid (fun g (hg : w1.heap.size ≤ g) => lab0_new (lab := lab) hg)
  have HSZ := Lib.hid hal.size
  have HS := Lib.hid (HS.out.fresh hal)
  have HBA := Lib.hid (HBA.out.fresh hal)
  clear hk hal
  go_wp2_with fail
  generalize lab0 lab w1 = lg at *
  unfold PSt.arr at HN HS HBA HSZ
  generalize w2.heap.size = nb at *
  generalize (w2.alloc (.cells #[.int .i64 (P.nf : Int), .int .i64 (P.nt : Int), .int .i64 (P.nm : Int), .int .i64 (P.ng : Int), .int .i64 (P.ne : Int), .int .i64 (P.nd : Int), .int .i64 (P.ni : Int)] 43)) = wa at *
  go_loopw [9, 10] (fun wv i wr => ∃ (k : Nat) (wA : Option Addr) (wc : Nat), k ≤ P.ng ∧ i = .int .i64 (k : Int) ∧ wv = .slice wA k wc ∧ Own wr wa.heap.size 65 3 AnyV (.slice wA k wc) k (vcell (fun q => (P.G q).x)) ∧ Kept S0 wa wr) (fun _ i _ => P.ng - (intOf i).toNat)
  case atStart => exact ⟨0, none, 0, by omega, rfl, rfl, own_zero, Kept.refl _ _⟩
  case round =>
    obtain ⟨k, wA, wc, hk, rfl, rfl, how, hkw⟩ := hrel
    have HKW := Lib.hid hkw
    have HOW := Lib.hid how
    clear hkw how
    have qn : wr.cell? ⟨nb, 3, none⟩ = some (.int .i64 (P.ng : Int)) := keep0 HKW.out (HN.out.cell 3)
    have hcnt := HP.out.g
    by_cases hlt : k < P.ng
    · have HSR := Lib.hid (HS.out.kept0 HKW.out)
      have HG := Lib.hid (HSR.out.st.gl k hlt)
      go_wp2_with fail
      refine (getglob_in k (P.G k).t (P.G k).m (P.G k).x.t (P.G k).x.lo (P.G k).x.hi HSR.out.ls.obj HSR.out.ls.g (by omega) hlt HG.out.f0 HG.out.f1 HG.out.f2 HG.out.f3 HG.out.f4).mono ?_
      rintro e v1 ⟨rfl, hk1⟩
      go_upto_region 10 with fail
      have hal : Kept S0 v1 ((v1.alloc (.cells #[.int .u8 (P.G k).t, .bool (P.G k).m] 33)).alloc (.cells #[.int .u8 (P.G k).x.t, .int .u64 (P.G k).x.lo, .int .u64 (P.G k).x.hi] 65)) := ((Kept.refl S0 v1).alloc _).alloc _
      have hvb : Blk ((v1.alloc (.cells #[.int .u8 (P.G k).t, .bool (P.G k).m] 33)).alloc (.cells #[.int .u8 (P.G k).x.t, .int .u64 (P.G k).x.lo, .int .u64 (P.G k).x.hi] 65)) (v1.heap.size + 1) 65 #[.int .u8 (P.G k).x.t, .int .u64 (P.G k).x.lo, .int .u64 (P.G k).x.hi] := Blk.new1 v1 _ _ _
      have HKF := Lib.hid (HKW.out.then0 (hk1.trans hal))
      have HOF := Lib.hid (HOW.out.kept (hk1.trans hal) (fun _ _ e => e))
      have q0 : ((v1.alloc (.cells #[.int .u8 (P.G k).t, .bool (P.G k).m] 33)).alloc (.cells #[.int .u8 (P.G k).x.t, .int .u64 (P.G k).x.lo, .int .u64 (P.G k).x.hi] 65)).cell? ⟨v1.heap.size + 1, 0, none⟩ = some (.int .u8 (P.G k).x.t) := hvb.cell 0
      have q1 : ((v1.alloc (.cells #[.int .u8 (P.G k).t, .bool (P.G k).m] 33)).alloc (.cells #[.int .u8 (P.G k).x.t, .int .u64 (P.G k).x.lo, .int .u64 (P.G k).x.hi] 65)).cell? ⟨v1.heap.size + 1, 1, none⟩ = some (.int .u64 (P.G k).x.lo) := hvb.cell 1
      have q2 : ((v1.alloc (.cells #[.int .u8 (P.G k).t, .bool (P.G k).m] 33)).alloc (.cells #[.int .u8 (P.G k).x.t, .int .u64 (P.G k).x.lo, .int .u64 (P.G k).x.hi] 65)).cell? ⟨v1.heap.size + 1, 2, none⟩ = some (.int .u64 (P.G k).x.hi) := hvb.cell 2
      clear hk1 hal hvb HG HSR qn
      generalize v1.heap.size + 1 = vb at *
      generalize ((v1.alloc (.cells #[.int .u8 (P.G k).t, .bool (P.G k).m] 33)).alloc (.cells #[.int .u8 (P.G k).x.t, .int .u64 (P.G k).x.lo, .int .u64 (P.G k).x.hi] 65)) = y0 at *
      have hB : wa.heap.size ≤ (y0.alloc (.cells #[.int .u8 (P.G k).x.t, .int .u64 (P.G k).x.lo, .int .u64 (P.G k).x.hi] 65)).heap.size := Nat.le_trans HKF.out.size ((Kept.refl S0 y0).alloc _).size
      have hoa : Own (y0.alloc (.cells #[.int .u8 (P.G k).x.t, .int .u64 (P.G k).x.lo, .int .u64 (P.G k).x.hi] 65)) wa.heap.size 65 3 AnyV (.slice wA k wc) k (vcell (fun q => (P.G q).x)) := HOF.out.kept ((Kept.refl S0 y0).alloc _) (fun _ _ e => e)
      have hsl : Sl (y0.alloc (.cells #[.int .u8 (P.G k).x.t, .int .u64 (P.G k).x.lo, .int .u64 (P.G k).x.hi] 65)) (some ⟨y0.heap.size, 0, none⟩) (1 * 3) (vcell (fun _ => (P.G k).x)) := fun _ => ⟨y0.heap.size, 0, rfl, fun i hi => by
        have hnw := Blk.new y0 65 #[.int .u8 (P.G k).x.t, .int .u64 (P.G k).x.lo, .int .u64 (P.G k).x.hi]
        rw [Nat.zero_add]
        match i, hi with
        | 0, _ => exact hnw.cell 0
        | 1, _ => exact hnw.cell 1
        | 2, _ => exact hnw.cell 2⟩
      have HKA := Lib.hid (HKF.out.then0 ((Kept.refl S0 y0).alloc (.cells #[.int .u8 (P.G k).x.t, .int .u64 (P.G k).x.lo, .int .u64 (P.G k).x.hi] 65)))
      go_wp2_with (at_builtin; refine wpList_append_all rfl (.tmp 44) (.tmp 46) 70 rfl wa.heap.size 65 z 3 24 Tryz.underlying70 HI.out HZ.out (by omega) AnyV (fun _ _ => trivial) _ k (vcell (fun q => (P.G q).x)) rfl hoa (some ⟨y0.heap.size, 0, none⟩) 1 1 (vcell (fun _ => (P.G k).x)) rfl hsl (fun h => by cases h) (fun _ _ => trivial) (fun _ _ => vcell_one _ _) (by unfold maxLen; omega) (by omega) hB ?_)
      intro v' w' ha
      obtain ⟨A', c', rfl, _, _, _⟩ := ha.own.out
      have HA := Lib.hid ha
      clear ha hoa hsl hB q0 q1 q2
      have HOX := Lib.hid (show Own w' wa.heap.size 65 3 AnyV (.slice A' (k + 1) c') (k + 1) (vcell (fun q => (P.G q).x)) from by
        refine HA.out.own.congr fun i hi => ?_
        rw [after_vcell]
        show vpart _ _ = vpart _ _
        congr 1
        show (if i / 3 < k then _ else _) = _
        by_cases h : i / 3 < k
        · rw [if_pos h]
        · rw [if_neg h, show i / 3 = k by omega])
      have HKX := Lib.hid (HKA.out.trans_ (Kept.grown (Kept.refl (fun g => (Value.slice wA k wc).ownBlock = some g) _) HA.out.grown (fun g hg => .inl hg)) (fun g hg => .inr (HOW.out.lt g hg).1))
      go_wp2_with fail
      go_roundw
      case rel => exact ⟨k + 1, A', c', by omega, by go_num, rfl, HOX.out, HKX.out⟩
      case measure => simp [intOf]; omega
    · obtain rfl : k = P.ng := by omega
      obtain ⟨wz1, hwz⟩ : ∃ wz, wz = wr := ⟨_, rfl⟩
      subst hwz
      go_wp2_with fail
      clear qn
      have HM := Lib.hid (show More w sb nb (.slice wA P.ng wc) wa.heap.size P 0 wz1 from ⟨lg, v, P, HS.out.kept0 HKW.out, HBA.out.move (⟨HKW.out, fun _ _ => rfl⟩ : Mv lg lg S0 _ _) (fun _ e => e.elim), HP.out, Ext.refl P, HKW.out.blk HN.out (fun x => x), HLN.out, HOW.out, fun g hg => HLZ.out g (Nat.le_trans HSZ.out (HOW.out.lt g hg).1)⟩)
      have HP60 := Lib.hid HP.out.g
      clear HS HBA HP HN HLN HLZ HSZ HKW HOW hk hlt
      generalize hwb : wa.heap.size = wb at *
      clear hwb
      go_loopw [14] (fun i wr => ∃ k : Nat, k ≤ m ∧ k ≤ 20 ∧ i = .int .i64 (k : Int) ∧ More w sb nb (.slice wA P.ng wc) wb P k wr) (fun i _ => 21 - (intOf i).toNat)
      case atStart => exact ⟨0, by omega, by omega, rfl, HM.out⟩
      case round =>
        obtain ⟨k, hk, hk20, rfl, hmo⟩ := hrel
        have HMO := Lib.hid hmo
        clear hmo HM
        by_cases hlt : k < m
        · by_cases h20 : k < 20
          · obtain ⟨lab, v, Q, hs, hb, hQ, hx, hn2, hln, how, hlw⟩ := HMO.out
            have hL2 := HL2.out.kept hb.k
            obtain ⟨b, o, rfl, hc⟩ := hL2.el (by omega)
            have HC0 := Lib.hid (hc k hlt)
            have q0 : wr.cell? ⟨b, o + k * 32, none⟩ = some (.int .i64 (D2 k)) := hc k hlt 0 (by omega)
            have HOK := Lib.hid (HL2.out.ok k hlt)
            have HS := Lib.hid hs
            have HB := Lib.hid hb
            have HQ := Lib.hid hQ
            have HX := Lib.hid hx
            have HN := Lib.hid hn2
            have HLN := Lib.hid hln
            have HOW := Lib.hid how
            have HLW := Lib.hid hlw
            clear hs hb hQ hx hn2 hln how hlw hL2 hc
            by_cases hd : D2 k < 7
            · have hal : Kept S0 wr (wr.alloc (.cells #[.slice none 0 0, .slice none 0 0, .slice none 0 0, .slice none 0 0, .slice none 0 0, .slice none 0 0, .slice none 0 0] 89)) := (Kept.refl S0 wr).alloc _
              have HC := Lib.hid (show ∀ j, j < ((X2 k).cells (D2 k)).size → (wr.alloc (.cells #[.slice none 0 0, .slice none 0 0, .slice none 0 0, .slice none 0 0, .slice none 0 0, .slice none 0 0, .slice none 0 0] 89)).cell? ((⟨b, o + k * 32, none⟩ : Addr).add j) = ((X2 k).cells (D2 k))[j]? from fun j hj => by
                rw [addr_add]
                have h1 := HC0.out j hj
                have h2 : ((X2 k).cells (D2 k))[j]? = some (((X2 k).cells (D2 k))[j]'hj) := Array.getElem?_eq_getElem hj
                rw [h2] at h1 ⊢
                exact keep0 hal h1)
              obtain ⟨lx, hx1, hx2⟩ : ∃ lx : Nat → Nat, lx wr.heap.size = 2 ∧ ∀ g, g < wr.heap.size → lx g = lab g := ⟨fun g => if g = wr.heap.size then 2 else lab g, if_pos rfl, fun g hg => if_neg (by omega)⟩
              have hmv : Mv lab lx S0 wr (wr.alloc (.cells #[.slice none 0 0, .slice none 0 0, .slice none 0 0, .slice none 0 0, .slice none 0 0, .slice none 0 0, .slice none 0 0] 89)) := ⟨hal, hx2⟩
              have HR1 := Lib.hid (show RAt w.heap.size lx (wr.alloc (.cells #[.slice none 0 0, .slice none 0 0, .slice none 0 0, .slice none 0 0, .slice none 0 0, .slice none 0 0, .slice none 0 0] 89)) wr.heap.size PSt.zero SV.zero from rat_new (Blk.new wr 89 _) HB.out.size hx1)
              have HS1 := Lib.hid (HS.out.move hmv (fun _ _ x => x.elim))
              have HB1 := Lib.hid (HB.out.move hmv (fun _ x => x.elim))
              have HN1 := Lib.hid (hal.blk HN.out (fun x => x))
              have HLN1 := Lib.hid ((hmv.l nb HN.out.lt).trans HLN.out)
              have HOW1 := Lib.hid (HOW.out.kept hal (fun _ _ x => x))
              have HLW1 := Lib.hid (fun g (hg : (Value.slice wA P.ng wc).ownBlock = some g) => (hmv.l g (HOW.out.lt g hg).2).trans (HLW.out g hg))
              clear HS HB HN HLN HOW HLW HC0 hal hmv hx1 hx2
              go_wp2_with (refine wpList_load_cells rfl 79 _ rfl ⟨b, o + k * 32, none⟩ rfl ((X2 k).cells (D2 k)) _ HC.out Tryz.underlying79 rfl (by kernel_rfl) ?_)
              refine (add_any (w0 := w) (X2 k) (D2 k) HOK.out HS1.out HR1.out HB1.out (HQ.out.mono (by omega)) ⟨Nat.zero_le _, Nat.zero_le _, Nat.zero_le _, Nat.zero_le _, Nat.zero_le _, Nat.zero_le _, Nat.zero_le _⟩).mono ?_
              rintro e w' ⟨rfl, lab3, v3, u3, hs3, _, m3⟩
              have HMF := Lib.hid (show More w sb nb (.slice wA P.ng wc) wb P (k + 1) w' from ⟨lab3, v3, _, hs3, HB1.out.move m3 (fun _ x => x), HQ.out.add (D2 k) (X2 k), HX.out.trans (ext_add _ _ _), m3.k.blk HN1.out (fun x => x HLN1.out), (m3.l nb HN1.out.lt).trans HLN1.out, HOW1.out.kept m3.k (fun g hg x => x (HLW1.out g hg)), fun g hg => (m3.l g (HOW1.out.lt g hg).2).trans (HLW1.out g hg)⟩)
              clear hs3 m3 q0
              go_wp2_with fail
              go_roundw
              case rel => exact ⟨k + 1, by omega, by omega, by go_num, HMF.out⟩
              case measure => simp [intOf]; omega
            · go_wp2_with fail
              go_roundw
              case rel => exact ⟨k + 1, by omega, by omega, by go_num, HMO.out.mono (by omega)⟩
              case measure => simp [intOf]; omega
          · obtain ⟨lab, v, Q, hs, hb, hQ, hx, hn2, hln, how, hlw⟩ := HMO.out
            obtain ⟨wz2, hwz⟩ : ∃ wz, wz = wr := ⟨_, rfl⟩
            subst hwz
            have HS := Lib.hid hs
            have HK := Lib.hid hb.k
            have HQ := Lib.hid (hQ.mono (show 30 + k ≤ 60 by omega))
            have HX := Lib.hid hx
            have HN := Lib.hid hn2
            have HOW := Lib.hid how
            clear hs hb hQ hx hn2 hln how hlw HMO
            go_wp2_with fail
            refine (s_sizes HS.out).mono ?_
            rintro e x1 ⟨rfl, hk1⟩
            have hal : Kept S0 wz2 (x1.alloc (.cells Q.arr 43)) := hk1.alloc _
            have HM2 := Lib.hid (Blk.new x1 43 Q.arr)
            have HS := Lib.hid (HS.out.kept0 hal)
            have HK := Lib.hid (HK.out.then0 hal)
            have HN := Lib.hid (hal.blk HN.out (fun x => x))
            have HOW := Lib.hid (HOW.out.kept hal (fun _ _ x => x))
            clear hk1 hal
            go_wp2_with fail
            unfold PSt.arr at HM2 HS HK HN HOW
            generalize x1.heap.size = mb at *
            generalize (x1.alloc (.cells #[.int .i64 (Q.nf : Int), .int .i64 (Q.nt : Int), .int .i64 (Q.nm : Int), .int .i64 (Q.ng : Int), .int .i64 (Q.ne : Int), .int .i64 (Q.nd : Int), .int .i64 (Q.ni : Int)] 43)) = wc1 at *
            clear hk hk20 hlt
            go_loopw [16] (fun i wr => ∃ k : Nat, k ≤ 7 ∧ i = .int .i64 (k : Int) ∧ Kept S0 wc1 wr) (fun i _ => 7 - (intOf i).toNat)
            case atStart => exact ⟨0, by omega, rfl, Kept.refl _ _⟩
            case round =>
              obtain ⟨j, hj, rfl, hkw⟩ := hrel
              have HKW := Lib.hid hkw
              clear hkw
              by_cases hlt : j < 7
              · have qn : wr.cell? ⟨nb, j, none⟩ = some (.int .i64 (P.cnt j : Int)) := keep0 HKW.out ((HN.out.cell j).trans (P.arr_at hlt))
                have qm : wr.cell? ⟨mb, j, none⟩ = some (.int .i64 (Q.cnt j : Int)) := keep0 HKW.out ((HM2.out.cell j).trans (Q.arr_at hlt))
                have hle := HX.out.cnt j
                generalize P.cnt j = cp at *
                generalize Q.cnt j = cq at *
                have i0 : (0 : Int) ≤ (j : Int) := by omega
                have i7 : (j : Int) < 7 := by omega
                go_upto_region 20 with fail
                go_quiet (fail)
                go_wp2_with fail
                go_roundw
                case rel => exact ⟨j + 1, by omega, by go_num, HKW.out.drewN _⟩
                case measure => simp [intOf]; omega
              · obtain ⟨wz3, hwz⟩ : ∃ wz, wz = wr := ⟨_, rfl⟩
                subst hwz
                have HS := Lib.hid (HS.out.kept0 HKW.out)
                have HK := Lib.hid (HK.out.then0 HKW.out)
                have HN := Lib.hid (HKW.out.blk HN.out (fun x => x))
                have HOW := Lib.hid (HOW.out.kept HKW.out (fun _ _ x => x))
                clear HKW HM2
                have hj7 : ¬ ((j : Int) < 7) := by omega
                have hwA : (∃ gw, wA = some ⟨gw, 0, none⟩) ∨ (wA = none ∧ P.ng = 0) := by
                  rcases HOW.out with ⟨e, hz⟩ | ⟨g, cap, fr, e, _⟩
                  · injection e with e1 e2
                    exact .inr ⟨e1, hz⟩
                  · injection e with e1 e2
                    exact .inl ⟨g, e1⟩
                rcases hwA with ⟨gw, rfl⟩ | ⟨rfl, hz⟩
                · go_wp2_with fail
                  go_loopw [17] (fun i wr => ∃ k : Nat, k ≤ P.ng ∧ i = .int .i64 (k : Int) ∧ Kept S0 wz3 wr) (fun i _ => P.ng - (intOf i).toNat)
                  case atStart => exact ⟨0, by omega, rfl, Kept.refl _ _⟩
                  case round =>
                    obtain ⟨j, hj, rfl, hkw⟩ := hrel
                    have HKW := Lib.hid hkw
                    clear hkw
                    have qn : wr.cell? ⟨nb, 3, none⟩ = some (.int .i64 (P.ng : Int)) := keep0 HKW.out (HN.out.cell 3)
                    have hcnt := HP60.out
                    by_cases hlt : j < P.ng
                    · have HSR := Lib.hid (HS.out.kept0 HKW.out)
                      have HG := Lib.hid (HSR.out.st.gl j (Nat.lt_of_lt_of_le hlt HX.out.g))
                      have HGQ := Lib.hid (HX.out.G j hlt)
                      have hg := HG.out
                      rw [HGQ.out] at hg
                      have HG := Lib.hid hg
                      clear hg
                      go_wp2_with fail
                      refine (getglob_in j (P.G j).t (P.G j).m (P.G j).x.t (P.G j).x.lo (P.G j).x.hi HSR.out.ls.obj HSR.out.ls.g (by have := HQ.out.g; omega) (Nat.lt_of_lt_of_le hlt HX.out.g) HG.out.f0 HG.out.f1 HG.out.f2 HG.out.f3 HG.out.f4).mono ?_
                      rintro e v1 ⟨rfl, hk1⟩
                      go_upto_region 26 with fail
                      have hal : Kept S0 v1 ((v1.alloc (.cells #[.int .u8 (P.G j).t, .bool (P.G j).m] 33)).alloc (.cells #[.int .u8 (P.G j).x.t, .int .u64 (P.G j).x.lo, .int .u64 (P.G j).x.hi] 65)) := ((Kept.refl S0 v1).alloc _).alloc _
                      have hvb : Blk ((v1.alloc (.cells #[.int .u8 (P.G j).t, .bool (P.G j).m] 33)).alloc (.cells #[.int .u8 (P.G j).x.t, .int .u64 (P.G j).x.lo, .int .u64 (P.G j).x.hi] 65)) (v1.heap.size + 1) 65 #[.int .u8 (P.G j).x.t, .int .u64 (P.G j).x.lo, .int .u64 (P.G j).x.hi] := Blk.new1 v1 _ _ _
                      have HKF := Lib.hid (HKW.out.then0 (hk1.trans hal))
                      have HOF := Lib.hid (HOW.out.kept HKF.out (fun _ _ e => e))
                      have q0 : ((v1.alloc (.cells #[.int .u8 (P.G j).t, .bool (P.G j).m] 33)).alloc (.cells #[.int .u8 (P.G j).x.t, .int .u64 (P.G j).x.lo, .int .u64 (P.G j).x.hi] 65)).cell? ⟨v1.heap.size + 1, 0, none⟩ = some (.int .u8 (P.G j).x.t) := hvb.cell 0
                      have q1 : ((v1.alloc (.cells #[.int .u8 (P.G j).t, .bool (P.G j).m] 33)).alloc (.cells #[.int .u8 (P.G j).x.t, .int .u64 (P.G j).x.lo, .int .u64 (P.G j).x.hi] 65)).cell? ⟨v1.heap.size + 1, 1, none⟩ = some (.int .u64 (P.G j).x.lo) := hvb.cell 1
                      have q2 : ((v1.alloc (.cells #[.int .u8 (P.G j).t, .bool (P.G j).m] 33)).alloc (.cells #[.int .u8 (P.G j).x.t, .int .u64 (P.G j).x.lo, .int .u64 (P.G j).x.hi] 65)).cell? ⟨v1.heap.size + 1, 2, none⟩ = some (.int .u64 (P.G j).x.hi) := hvb.cell 2
                      have p0 : ((v1.alloc (.cells #[.int .u8 (P.G j).t, .bool (P.G j).m] 33)).alloc (.cells #[.int .u8 (P.G j).x.t, .int .u64 (P.G j).x.lo, .int .u64 (P.G j).x.hi] 65)).cell? ⟨gw, j * 3, none⟩ = some (.int .u8 (P.G j).x.t) := (HOF.out.rowcell (by omega)).trans (congrArg some (vcell_0 _ j))
                      have p1 : ((v1.alloc (.cells #[.int .u8 (P.G j).t, .bool (P.G j).m] 33)).alloc (.cells #[.int .u8 (P.G j).x.t, .int .u64 (P.G j).x.lo, .int .u64 (P.G j).x.hi] 65)).cell? ⟨gw, j * 3 + 1, none⟩ = some (.int .u64 (P.G j).x.lo) := (HOF.out.rowcell (by omega)).trans (congrArg some (vcell_1 _ j))
                      have p2 : ((v1.alloc (.cells #[.int .u8 (P.G j).t, .bool (P.G j).m] 33)).alloc (.cells #[.int .u8 (P.G j).x.t, .int .u64 (P.G j).x.lo, .int .u64 (P.G j).x.hi] 65)).cell? ⟨gw, j * 3 + 2, none⟩ = some (.int .u64 (P.G j).x.hi) := (HOF.out.rowcell (by omega)).trans (congrArg some (vcell_2 _ j))
                      clear hk1 hal hvb HG HGQ HSR qn
                      generalize v1.heap.size + 1 = vb at *
                      generalize ((v1.alloc (.cells #[.int .u8 (P.G j).t, .bool (P.G j).m] 33)).alloc (.cells #[.int .u8 (P.G j).x.t, .int .u64 (P.G j).x.lo, .int .u64 (P.G j).x.hi] 65)) = y0 at *
                      have i0 : (0 : Int) ≤ (j : Int) := by omega
                      have i7 : (j : Int) < (P.ng : Int) := by omega
                      go_quiet (fail)
                      go_wp2_with fail
                      go_roundw
                      case rel => exact ⟨j + 1, by omega, by go_num, HKF.out.drewN _⟩
                      case measure => simp [intOf]; omega
                    · obtain rfl : j = P.ng := by omega
                      go_wp2_with fail
                      refine (lives_any _).mono ?_
                      rintro e v1 ⟨rfl, hk1⟩
                      have HKF := Lib.hid (HK.out.then0 (HKW.out.then0 hk1))
                      clear hk1
                      go_wp2_with fail
                      go_ret
                      exact ⟨rfl, HKF.out⟩
                · have HZ0 := Lib.hid hz
                  clear hz
                  go_wp2_with fail
                  go_loopw [17] (fun i wr => ∃ k : Nat, k ≤ P.ng ∧ i = .int .i64 (k : Int) ∧ Kept S0 wz3 wr) (fun i _ => P.ng - (intOf i).toNat)
                  case atStart => exact ⟨0, by omega, rfl, Kept.refl _ _⟩
                  case round =>
                    obtain ⟨j, hj, rfl, hkw⟩ := hrel
                    have HKW := Lib.hid hkw
                    clear hkw
                    have qn : wr.cell? ⟨nb, 3, none⟩ = some (.int .i64 (P.ng : Int)) := keep0 HKW.out (HN.out.cell 3)
                    have hcnt := HP60.out
                    by_cases hlt : j < P.ng
                    · exact absurd hlt (by have := HZ0.out; omega)
                    · obtain rfl : j = P.ng := by omega
                      go_wp2_with fail
                      refine (lives_any _).mono ?_
                      rintro e v1 ⟨rfl, hk1⟩
                      have HKF := Lib.hid (HK.out.then0 (HKW.out.then0 hk1))
                      clear hk1
                      go_wp2_with fail
                      go_ret
                      exact ⟨rfl, HKF.out⟩
        · obtain ⟨lab, v, Q, hs, hb, hQ, hx, hn2, hln, how, hlw⟩ := HMO.out
          obtain ⟨wz2, hwz⟩ : ∃ wz, wz = wr := ⟨_, rfl⟩
          subst hwz
          have HS := Lib.hid hs
          have HK := Lib.hid hb.k
          have HQ := Lib.hid (hQ.mono (show 30 + k ≤ 60 by omega))
          have HX := Lib.hid hx
          have HN := Lib.hid hn2
          have HOW := Lib.hid how
          clear hs hb hQ hx hn2 hln how hlw HMO
          go_wp2_with fail
          refine (s_sizes HS.out).mono ?_
          rintro e x1 ⟨rfl, hk1⟩
          have hal : Kept S0 wz2 (x1.alloc (.cells Q.arr 43)) := hk1.alloc _
          have HM2 := Lib.hid (Blk.new x1 43 Q.arr)
          have HS := Lib.hid (HS.out.kept0 hal)
          have HK := Lib.hid (HK.out.then0 hal)
          have HN := Lib.hid (hal.blk HN.out (fun x => x))
          have HOW := Lib.hid (HOW.out.kept hal (fun _ _ x => x))
          clear hk1 hal
          go_wp2_with fail
          unfold PSt.arr at HM2 HS HK HN HOW
          generalize x1.heap.size = mb at *
          generalize (x1.alloc (.cells #[.int .i64 (Q.nf : Int), .int .i64 (Q.nt : Int), .int .i64 (Q.nm : Int), .int .i64 (Q.ng : Int), .int .i64 (Q.ne : Int), .int .i64 (Q.nd : Int), .int .i64 (Q.ni : Int)] 43)) = wc1 at *
          clear hk hk20 hlt
          go_loopw [16] (fun i wr => ∃ k : Nat, k ≤ 7 ∧ i = .int .i64 (k : Int) ∧ Kept S0 wc1 wr) (fun i _ => 7 - (intOf i).toNat)
          case atStart => exact ⟨0, by omega, rfl, Kept.refl _ _⟩
          case round =>
            obtain ⟨j, hj, rfl, hkw⟩ := hrel
            have HKW := Lib.hid hkw
            clear hkw
            by_cases hlt : j < 7
            · have qn : wr.cell? ⟨nb, j, none⟩ = some (.int .i64 (P.cnt j : Int)) := keep0 HKW.out ((HN.out.cell j).trans (P.arr_at hlt))
              have qm : wr.cell? ⟨mb, j, none⟩ = some (.int .i64 (Q.cnt j : Int)) := keep0 HKW.out ((HM2.out.cell j).trans (Q.arr_at hlt))
              have hle := HX.out.cnt j
              generalize P.cnt j = cp at *
              generalize Q.cnt j = cq at *
              have i0 : (0 : Int) ≤ (j : Int) := by omega
              have i7 : (j : Int) < 7 := by omega
              go_upto_region 20 with fail
              go_quiet (fail)
              go_wp2_with fail
              go_roundw
              case rel => exact ⟨j + 1, by omega, by go_num, HKW.out.drewN _⟩
              case measure => simp [intOf]; omega
            · obtain ⟨wz3, hwz⟩ : ∃ wz, wz = wr := ⟨_, rfl⟩
              subst hwz
              have HS := Lib.hid (HS.out.kept0 HKW.out)
              have HK := Lib.hid (HK.out.then0 HKW.out)
              have HN := Lib.hid (HKW.out.blk HN.out (fun x => x))
              have HOW := Lib.hid (HOW.out.kept HKW.out (fun _ _ x => x))
              clear HKW HM2
              have hj7 : ¬ ((j : Int) < 7) := by omega
              have hwA : (∃ gw, wA = some ⟨gw, 0, none⟩) ∨ (wA = none ∧ P.ng = 0) := by
                rcases HOW.out with ⟨e, hz⟩ | ⟨g, cap, fr, e, _⟩
                · injection e with e1 e2
                  exact .inr ⟨e1, hz⟩
                · injection e with e1 e2
                  exact .inl ⟨g, e1⟩
              rcases hwA with ⟨gw, rfl⟩ | ⟨rfl, hz⟩
              · go_wp2_with fail
                go_loopw [17] (fun i wr => ∃ k : Nat, k ≤ P.ng ∧ i = .int .i64 (k : Int) ∧ Kept S0 wz3 wr) (fun i _ => P.ng - (intOf i).toNat)
                case atStart => exact ⟨0, by omega, rfl, Kept.refl _ _⟩
                case round =>
                  obtain ⟨j, hj, rfl, hkw⟩ := hrel
                  have HKW := Lib.hid hkw
                  clear hkw
                  have qn : wr.cell? ⟨nb, 3, none⟩ = some (.int .i64 (P.ng : Int)) := keep0 HKW.out (HN.out.cell 3)
                  have hcnt := HP60.out
                  by_cases hlt : j < P.ng
                  · have HSR := Lib.hid (HS.out.kept0 HKW.out)
                    have HG := Lib.hid (HSR.out.st.gl j (Nat.lt_of_lt_of_le hlt HX.out.g))
                    have HGQ := Lib.hid (HX.out.G j hlt)
                    have hg := HG.out
                    rw [HGQ.out] at hg
                    have HG := Lib.hid hg
                    clear hg
                    go_wp2_with fail
                    refine (getglob_in j (P.G j).t (P.G j).m (P.G j).x.t (P.G j).x.lo (P.G j).x.hi HSR.out.ls.obj HSR.out.ls.g (by have := HQ.out.g; omega) (Nat.lt_of_lt_of_le hlt HX.out.g) HG.out.f0 HG.out.f1 HG.out.f2 HG.out.f3 HG.out.f4).mono ?_
                    rintro e v1 ⟨rfl, hk1⟩
                    go_upto_region 26 with fail
                    have hal : Kept S0 v1 ((v1.alloc (.cells #[.int .u8 (P.G j).t, .bool (P.G j).m] 33)).alloc (.cells #[.int .u8 (P.G j).x.t, .int .u64 (P.G j).x.lo, .int .u64 (P.G j).x.hi] 65)) := ((Kept.refl S0 v1).alloc _).alloc _
                    have hvb : Blk ((v1.alloc (.cells #[.int .u8 (P.G j).t, .bool (P.G j).m] 33)).alloc (.cells #[.int .u8 (P.G j).x.t, .int .u64 (P.G j).x.lo, .int .u64 (P.G j).x.hi] 65)) (v1.heap.size + 1) 65 #[.int .u8 (P.G j).x.t, .int .u64 (P.G j).x.lo, .int .u64 (P.G j).x.hi] := Blk.new1 v1 _ _ _
                    have HKF := Lib.hid (HKW.out.then0 (hk1.trans hal))
                    have HOF := Lib.hid (HOW.out.kept HKF.out (fun _ _ e => e))
                    have q0 : ((v1.alloc (.cells #[.int .u8 (P.G j).t, .bool (P.G j).m] 33)).alloc (.cells #[.int .u8 (P.G j).x.t, .int .u64 (P.G j).x.lo, .int .u64 (P.G j).x.hi] 65)).cell? ⟨v1.heap.size + 1, 0, none⟩ = some (.int .u8 (P.G j).x.t) := hvb.cell 0
                    have q1 : ((v1.alloc (.cells #[.int .u8 (P.G j).t, .bool (P.G j).m] 33)).alloc (.cells #[.int .u8 (P.G j).x.t, .int .u64 (P.G j).x.lo, .int .u64 (P.G j).x.hi] 65)).cell? ⟨v1.heap.size + 1, 1, none⟩ = some (.int .u64 (P.G j).x.lo) := hvb.cell 1
                    have q2 : ((v1.alloc (.cells #[.int .u8 (P.G j).t, .bool (P.G j).m] 33)).alloc (.cells #[.int .u8 (P.G j).x.t, .int .u64 (P.G j).x.lo, .int .u64 (P.G j).x.hi] 65)).cell? ⟨v1.heap.size + 1, 2, none⟩ = some (.int .u64 (P.G j).x.hi) := hvb.cell 2
                    have p0 : ((v1.alloc (.cells #[.int .u8 (P.G j).t, .bool (P.G j).m] 33)).alloc (.cells #[.int .u8 (P.G j).x.t, .int .u64 (P.G j).x.lo, .int .u64 (P.G j).x.hi] 65)).cell? ⟨gw, j * 3, none⟩ = some (.int .u8 (P.G j).x.t) := (HOF.out.rowcell (by omega)).trans (congrArg some (vcell_0 _ j))
                    have p1 : ((v1.alloc (.cells #[.int .u8 (P.G j).t, .bool (P.G j).m] 33)).alloc (.cells #[.int .u8 (P.G j).x.t, .int .u64 (P.G j).x.lo, .int .u64 (P.G j).x.hi] 65)).cell? ⟨gw, j * 3 + 1, none⟩ = some (.int .u64 (P.G j).x.lo) := (HOF.out.rowcell (by omega)).trans (congrArg some (vcell_1 _ j))
                    have p2 : ((v1.alloc (.cells #[.int .u8 (P.G j).t, .bool (P.G j).m] 33)).alloc (.cells #[.int .u8 (P.G j).x.t, .int .u64 (P.G j).x.lo, .int .u64 (P.G j).x.hi] 65)).cell? ⟨gw, j * 3 + 2, none⟩ = some (.int .u64 (P.G j).x.hi) := (HOF.out.rowcell (by omega)).trans (congrArg some (vcell_2 _ j))
                    clear hk1 hal hvb HG HGQ HSR qn
                    generalize v1.heap.size + 1 = vb at *
                    generalize ((v1.alloc (.cells #[.int .u8 (P.G j).t, .bool (P.G j).m] 33)).alloc (.cells #[.int .u8 (P.G j).x.t, .int .u64 (P.G j).x.lo, .int .u64 (P.G j).x.hi] 65)) = y0 at *
                    have i0 : (0 : Int) ≤ (j : Int) := by omega
                    have i7 : (j : Int) < (P.ng : Int) := by omega
                    go_quiet (fail)
                    go_wp2_with fail
                    go_roundw
                    case rel => exact ⟨j + 1, by omega, by go_num, HKF.out.drewN _⟩
                    case measure => simp [intOf]; omega
                  · obtain rfl : j = P.ng := by omega
                    go_wp2_with fail
                    refine (lives_any _).mono ?_
                    rintro e v1 ⟨rfl, hk1⟩
                    have HKF := Lib.hid (HK.out.then0 (HKW.out.then0 hk1))
                    clear hk1
                    go_wp2_with fail
                    go_ret
                    exact ⟨rfl, HKF.out⟩
              · have HZ0 := Lib.hid hz
                clear hz
                go_wp2_with fail
                go_loopw [17] (fun i wr => ∃ k : Nat, k ≤ P.ng ∧ i = .int .i64 (k : Int) ∧ Kept S0 wz3 wr) (fun i _ => P.ng - (intOf i).toNat)
                case atStart => exact ⟨0, by omega, rfl, Kept.refl _ _⟩
                case round =>
                  obtain ⟨j, hj, rfl, hkw⟩ := hrel
                  have HKW := Lib.hid hkw
                  clear hkw
                  have qn : wr.cell? ⟨nb, 3, none⟩ = some (.int .i64 (P.ng : Int)) := keep0 HKW.out (HN.out.cell 3)
                  have hcnt := HP60.out
                  by_cases hlt : j < P.ng
                  · exact absurd hlt (by have := HZ0.out; omega)
                  · obtain rfl : j = P.ng := by omega
                    go_wp2_with fail
                    refine (lives_any _).mono ?_
                    rintro e v1 ⟨rfl, hk1⟩
                    have HKF := Lib.hid (HK.out.then0 (HKW.out.then0 hk1))
                    clear hk1
                    go_wp2_with fail
                    go_ret
                    exact ⟨rfl, HKF.out⟩
end Go.Proofs.YtlnkdnmeikpckaaGreat
namespace Go.Proofs.YtlnkdnmeikpckaaGreat
open Go.ChangeShapes Go.WideShapes Go.ChangeAt Go.RowKit Go.Joins
set_option maxRecDepth 100000
set_option maxRecDepth 100000 in
set_option maxHeartbeats 1600000 in
theorem storeStays_lifted (os : Os) (started : os.Started) (H : Type) (enc : TypeId × Value → H) :
    ReturnsInHanded {} Tryz.checked os 6 .any (Rows.storeStaysSpec.pre6 enc Tryz.prog Tryz.f6 Rows.storeStaysRow.domain false) (Rows.storeStaysSpec.post enc Tryz.prog Tryz.f6 false true false false) := by
  refine returnsInHanded_of_change_sized (C := Tryz.checked) Tryz.own started (by kernel_rfl) Tryz.func6
    (ChangeSpec.witness6 (enc := enc) (C := Tryz.checked) false ⟨#[], #[.slice none 0 0, .slice none 0 0], []⟩ 8 (by kernel_rfl) (by kernel_rfl) (by kernel_rfl) (by kernel_rfl)) ?_
  intro W base args ds gs before hval0 hW hcnd hsz0 _
  have hsz : (DataW.weightsEach Tryz.prog (Tryz.f6.params.toList ++ Rows.storeStaysSpec.plain.varTypes Tryz.prog) (ds ++ gs)).all (· ≤ reachBytes) = true := hsz0
  clear hsz0
  have hval : ∀ (j : Nat) t v, Tryz.f6.params[j]? = some t → args[j]? = some v → Value.okWide Tryz.prog W .any base t v := hval0
  have hW' := hW
  obtain ⟨p, q, hA0, hV, rfl, hfz, hnd⟩ := hW
  have hA : DataW.TrodAll enc Tryz.prog W 0 (fun _ => true) true Tryz.f6.params.toList args.toList ds p := hA0
  rw [Tryz.params6] at hA hval hsz
  have hrd := fun j t v => rd_params (ts2 := Rows.storeStaysSpec.plain.varTypes Tryz.prog) (gs := gs) hA j t v
  have hws : ∀ q ∈ DataW.weightsEach Tryz.prog (_ ++ Rows.storeStaysSpec.plain.varTypes Tryz.prog) (ds ++ gs), q ≤ reachBytes := fun q hq => of_decide_eq_true (List.all_eq_true.1 hsz q hq)
  obtain ⟨v0, vs0, d0, ds0, p0, q0, hargs0, rfl, rfl, h0, r0⟩ := trodAll_cons hA
  obtain ⟨v1, vs1, d1, ds1, p1, q1, hargs1, rfl, rfl, h1, r1⟩ := trodAll_cons r0
  obtain ⟨hargsN, rfl, rfl⟩ := trodAll_nil r1
  obtain rfl : args = #[v0, v1] := by
    apply Array.toList_inj.1
    rw [hargs0, hargs1, hargsN]
  obtain ⟨rfl, rfl⟩ := trodVars_none hV
  have g0 := hrd 0 22 v0 rfl rfl
  obtain ⟨l_A, l_n, l_c, hv0⟩ := okWide_slice Tryz.underlying22 (hval 0 22 v0 rfl rfl)
  subst hv0
  have g1 := hrd 1 22 v1 rfl rfl
  obtain ⟨m_A, m_n, m_c, hv1⟩ := okWide_slice Tryz.underlying22 (hval 1 22 v1 rfl rfl)
  subst hv1
  obtain ⟨D, X, hacts, hlen⟩ := actl_of_rd hws g0
  obtain ⟨D2, X2, hacts2, hlen2⟩ := actl_of_rd hws g1
  refine (stays_law l_A l_n l_c D X m_A m_n m_c D2 X2 W hacts hlen hacts2 hlen2).mono fun e W' ⟨he, hk⟩ => ?_
  subst he
  refine ⟨_, rfl, post_law Tryz.laidOut ?_ hW' rfl Tryz.underlying4 (by kernel_rfl) rfl hk.below0⟩
  rw [Tryz.params6]
  intro t ht
  simp at ht
  rcases ht with rfl <;> exact ⟨by kernel_rfl, of_decide_eq_true (by kernel_rfl)⟩
theorem storeStays_holds : Rows.StoreStaysSaid :=
  OpenClaim.holds_of_wide 6 Tryz.f6 rfl rfl rfl rfl rfl rfl rfl ⟨rfl, rfl, rfl, rfl, rfl⟩ rfl rfl rfl rfl rfl (by kernel_rfl) Tryz.func6 (by kernel_rfl)
    (of_decide_eq_true (by kernel_rfl)) (by unfold Func.isWrapper; rw [if_neg (of_decide_eq_false (by kernel_rfl))]; exact ⟨rfl, rfl⟩)
    (fun os started H enc _ => storeStays_lifted os started H enc)
end Go.Proofs.YtlnkdnmeikpckaaGreat
