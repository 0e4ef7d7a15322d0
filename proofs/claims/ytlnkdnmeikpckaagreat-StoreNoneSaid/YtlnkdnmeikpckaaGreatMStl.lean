/- What the proofs lean on, part 12 of St. No condition. -/
import Derived.Test.YtlnkdnmeikpckaaGreatMSta
import Derived.Test.YtlnkdnmeikpckaaGreatMStb
import Derived.Test.YtlnkdnmeikpckaaGreatMStc
import Derived.Test.YtlnkdnmeikpckaaGreatMStd
import Derived.Test.YtlnkdnmeikpckaaGreatMSte
import Derived.Test.YtlnkdnmeikpckaaGreatMStf
import Derived.Test.YtlnkdnmeikpckaaGreatMStg
import Derived.Test.YtlnkdnmeikpckaaGreatMSth
import Derived.Test.YtlnkdnmeikpckaaGreatMStj
import Derived.Test.YtlnkdnmeikpckaaGreatMStk
import Derived.Test.YtlnkdnmeikpckaaGreatRows
import Derived.ProofKit
import Derived.SizedLaws
import Derived.Lib.SmallJoins
namespace Go.Proofs.YtlnkdnmeikpckaaGreat
open Go.RowKit
set_option maxRecDepth 100000
theorem inA_isIn (a : Int) (n : Nat) : inA a (n : Int) = isIn a n := by unfold inA isIn; rw [Bool.decide_and]
section
variable {w0 w : World} {sb rb : Nat} {lab : Nat → Nat} {P : PSt} {v u : SV}
set_option maxRecDepth 100000 in
set_option maxHeartbeats 6400000 in
theorem change_10 (x : ActP) (hx : ActOk w0 x) (hs : SAt w0.heap.size lab w sb P v) (hr : RAt w0.heap.size lab w rb P u) (hb : Bas w0 lab w) (hP : P.Le 200) :
    Calls Tryz.prog 77 #[.pointer (some ⟨sb, 0, none⟩), .pointer (some ⟨rb, 0, none⟩), .agg (x.cells 10)] w fun e w' => e = .returned (.bool true) ∧ BDone w0.heap.size lab w w' sb rb (changeP P 10 x) (changeP P 10 x) := by
  have hka : Kept S0 w (w.alloc (.cells (x.cells 10) 79)) := (Kept.refl S0 w).alloc _
  have HBX := Lib.hid (Blk.new w 79 (x.cells 10))
  have HS := Lib.hid (hs.fresh hka)
  have HR := Lib.hid (hr.fresh hka)
  have HB := Lib.hid (hb.fresh hka)
  have HM := Lib.hid (lab0_mv (lab := lab) hka S0)
  have HX := Lib.hid hx
  have HL := Lib.hid (lab0_new (lab := lab) (Nat.le_refl w.heap.size))
  clear hx hs hr hb hka
  have c0 : (w.alloc (.cells (x.cells 10) 79)).cell? ⟨w.heap.size, 0, none⟩ = some (.int .i64 10) := HBX.out.cell 0
  have c1 : (w.alloc (.cells (x.cells 10) 79)).cell? ⟨w.heap.size, 1, none⟩ = some (.int .i64 x.a) := HBX.out.cell 1
  have c2 : (w.alloc (.cells (x.cells 10) 79)).cell? ⟨w.heap.size, 2, none⟩ = some (.int .u32 x.n) := HBX.out.cell 2
  have c18 : (w.alloc (.cells (x.cells 10) 79)).cell? ⟨w.heap.size, 18, none⟩ = some (.int .u8 x.x.t) := HBX.out.cell 18
  have c19 : (w.alloc (.cells (x.cells 10) 79)).cell? ⟨w.heap.size, 19, none⟩ = some (.int .u64 x.x.lo) := HBX.out.cell 19
  have c20 : (w.alloc (.cells (x.cells 10) 79)).cell? ⟨w.heap.size, 20, none⟩ = some (.int .u64 x.x.hi) := HBX.out.cell 20
  have hn : P.nt ≤ 65536 := by have := hP.t; omega
  cases hi : isIn x.a P.nt with
  | false =>
    have hg := gettable_out x.a HS.out.ls.obj HS.out.ls.t hn (isIn_not hi)
    obtain ⟨rA, rc, hrl, _, _, _⟩ := HR.out.ls.t.out
    have r1 : (w.alloc (.cells (x.cells 10) 79)).cell? ⟨rb, 1, none⟩ = some (.slice rA P.nt rc) := by rw [← hrl]; exact HR.out.ls.obj.cell 1
    rw [show changeP P 10 x = P from by simp [changeP, hi]]
    have HI := Lib.hid hi
    clear hi hrl
    go_enter Tryz.func77, Tryz.ntmps77
    go_wp2_with fail
    refine hg.mono ?_
    clear hg
    rintro e w2 ⟨rfl, rfl⟩
    go_wp2_with fail
    generalize w.heap.size = bx at *
    generalize hlg : lab0 lab w = lg at *
    clear hlg
    refine wp_region_R (fun w' => w'.cell? ⟨bx, 1, none⟩ = some (.int .i64 x.a) ∧ w'.cell? ⟨rb, 1, none⟩ = some (.slice rA P.nt rc)) [] (by kernel_rfl) ?_
    have hS : (w.alloc (.cells (x.cells 10) 79)).drew.cell? ⟨bx, 1, none⟩ = some (.int .i64 x.a) ∧ (w.alloc (.cells (x.cells 10) 79)).drew.cell? ⟨rb, 1, none⟩ = some (.slice rA P.nt rc) := ⟨c1, r1⟩
    have HF := Lib.hid (show BDone w0.heap.size lab w (w.alloc (.cells (x.cells 10) 79)).drew sb rb P P from ⟨lg, v, u, HS.out.kept0 ((Kept.refl S0 _).drew), HR.out.kept0 ((Kept.refl S0 _).drew), HM.out.k.drew.of0 _, HM.out.l⟩)
    clear c0 c1 c2 c18 c19 c20 r1 HS HR HB HM HBX
    generalize (w.alloc (.cells (x.cells 10) 79)).drew = w1 at *
    (first | (refine tkR 0 (v := ?_) rfl hS ⟨by rfl, ?_⟩ ?_; rotate_left; intro w h; (try dsimp only at h); first | (go_simp; done) | (go_simp; with_reducible rfl)) | refine skR 0 rfl (fun _ => hS) (by rfl) ?_); simp only [zq1, zq2, Act.put, zq4, zq5, zq6]
    (first | (refine tkR 1 (v := ?_) rfl hS ⟨by rfl, ?_⟩ ?_; rotate_left; intro w h; (try dsimp only at h); first | (go_simp; done) | (go_simp; with_reducible rfl)) | refine skR 1 rfl (fun _ => hS) (by rfl) ?_); simp only [zq1, zq2, zq3, Act.put, zq4, zq5, zq6]
    (first | (refine tkR 2 (v := ?_) rfl hS ⟨by rfl, ?_⟩ ?_; rotate_left; intro w h; (try dsimp only at h); first | (go_simp; done) | (go_simp; with_reducible rfl)) | refine skR 2 rfl (fun _ => hS) (by rfl) ?_); simp only [zq1, zq2, zq3, Act.put, zq4, zq5, zq6]
    (first | (refine tkR 3 (v := ?_) rfl hS ⟨by rfl, ?_⟩ ?_; rotate_left; intro w h; (try dsimp only at h); first | (go_simp; done) | (go_simp; with_reducible rfl)) | refine skR 3 rfl (fun _ => hS) (by rfl) ?_); simp only [zq1, zq2, zq3, Act.put, zq4, zq5, zq6]
    (first | (refine tkR 4 (v := ?_) rfl hS ⟨by rfl, ?_⟩ ?_; rotate_left; intro w h; (try dsimp only at h); first | (go_simp; done) | (go_simp; with_reducible rfl)) | refine skR 4 rfl (fun _ => hS) (by rfl) ?_); simp only [zq1, zq2, zq3, Act.put, zq4, zq5, zq6]
    (first | (refine tkR 5 (v := ?_) rfl hS ⟨by rfl, ?_⟩ ?_; rotate_left; intro w h; (try dsimp only at h); first | (go_simp; done) | (go_simp; with_reducible rfl)) | refine skR 5 rfl (fun _ => hS) (by rfl) ?_); simp only [zq1, zq2, zq3, Act.put, zq4, zq5, zq6]
    (first | (refine tkR 6 (v := ?_) rfl hS ⟨by rfl, ?_⟩ ?_; rotate_left; intro w h; (try dsimp only at h); first | (go_simp; done) | (go_simp; with_reducible rfl)) | refine skR 6 rfl (fun _ => hS) (by rfl) ?_); simp only [zq1, zq2, zq3, Act.put, zq4, zq5, zq6]
    refine wpAnyR_one 7 rfl (by kernel_rfl) (fun K hK => ?_)
    go_simp
    go_at_call 27
    refine (there_any x.a (P.nt : Int) w1).mono ?_
    rintro e w2 ⟨rfl, rfl⟩
    rw [inA_isIn, HI.out]
    refine hK.out _ _ (fun _ => hS) ?_
    clear hK K
    (first | (refine tkR 8 (v := ?_) rfl hS ⟨by rfl, ?_⟩ ?_; rotate_left; intro w h; (try dsimp only at h); first | (go_simp; done) | (go_simp; with_reducible rfl)) | refine skR 8 rfl (fun _ => hS) (by rfl) ?_); simp only [zq1, zq2, zq3, Act.put, zq4, zq5, zq6]
    refine wpAnyR_done (by kernel_rfl) ?_ _
    go_wp2_with fail
    go_ret
    exact ⟨rfl, HF.out⟩
  | true =>
    obtain ⟨k, hxa, hk⟩ := isIn_nat hi
    obtain ⟨tb, mn, lt, hF, hta, _, _⟩ := (HS.out.tb k hk).ex
    obtain ⟨ro, mr, lr, hG, hra, _, _⟩ := (HR.out.tb k hk).ex
    have hg := gettable_in k _ HS.out.ls.obj HS.out.ls.t hn hk hF
    obtain ⟨rg, rc, hrl, _, _⟩ := HR.out.ls.t.is_some (by omega)
    have hrt := HR.out.ls.t
    rw [hrl] at hrt
    have r1 : (w.alloc (.cells (x.cells 10) 79)).cell? ⟨rb, 1, none⟩ = some (.slice (some ⟨rg, 0, none⟩) P.nt rc) := by rw [← hrl]; exact HR.out.ls.obj.cell 1
    have r2 : (w.alloc (.cells (x.cells 10) 79)).cell? ⟨rg, k, none⟩ = some (.pointer (some ⟨ro, 0, none⟩)) := by rw [← hG]; exact hrt.rowcell (by omega)
    rw [show changeP P 10 x = tsetP P k x.n.toNat x.x from by have hi' : isIn (k : Int) P.nt = true := hxa ▸ hi; simp [changeP, hxa, hi']]
    have hki : (k : Int) < (P.nt : Int) := by omega
    have HI := Lib.hid (show inA (k : Int) (P.nt : Int) = true by rw [inA_isIn, ← hxa]; exact hi)
    have HF1 := Lib.hid hF
    have HRV := Lib.hid hrl
    have HG1 := Lib.hid hG
    have HKL := Lib.hid hk
    rw [hxa] at c1
    clear hi hrl hrt hF hG hta hra hn
    go_enter Tryz.func77, Tryz.ntmps77
    go_wp2_with fail
    refine hg.mono ?_
    clear hg
    rintro e w2 ⟨rfl, rfl⟩
    go_wp2_with fail
    generalize w.heap.size = bx at *
    generalize hlg : lab0 lab w = lg at *
    clear hlg
    refine wp_region_R (fun w' => w'.cell? ⟨bx, 1, none⟩ = some (.int .i64 (k : Int)) ∧ w'.cell? ⟨rb, 1, none⟩ = some (.slice (some ⟨rg, 0, none⟩) P.nt rc)) [] (by kernel_rfl) ?_
    have hS : (w.alloc (.cells (x.cells 10) 79)).drew.cell? ⟨bx, 1, none⟩ = some (.int .i64 (k : Int)) ∧ (w.alloc (.cells (x.cells 10) 79)).drew.cell? ⟨rb, 1, none⟩ = some (.slice (some ⟨rg, 0, none⟩) P.nt rc) := ⟨c1, r1⟩
    have HK1 := Lib.hid ((Kept.refl S0 (w.alloc (.cells (x.cells 10) 79))).drew)
    generalize hw1 : (w.alloc (.cells (x.cells 10) 79)).drew = w1 at *
    (first | (refine tkR 0 (v := ?_) rfl hS ⟨by rfl, ?_⟩ ?_; rotate_left; intro w h; (try dsimp only at h); first | (go_simp; done) | (go_simp; with_reducible rfl)) | refine skR 0 rfl (fun _ => hS) (by rfl) ?_); simp only [zq1, zq2, Act.put, zq4, zq5, zq6]
    (first | (refine tkR 1 (v := ?_) rfl hS ⟨by rfl, ?_⟩ ?_; rotate_left; intro w h; (try dsimp only at h); first | (go_simp; done) | (go_simp; with_reducible rfl)) | refine skR 1 rfl (fun _ => hS) (by rfl) ?_); simp only [zq1, zq2, zq3, Act.put, zq4, zq5, zq6]
    (first | (refine tkR 2 (v := ?_) rfl hS ⟨by rfl, ?_⟩ ?_; rotate_left; intro w h; (try dsimp only at h); first | (go_simp; done) | (go_simp; with_reducible rfl)) | refine skR 2 rfl (fun _ => hS) (by rfl) ?_); simp only [zq1, zq2, zq3, Act.put, zq4, zq5, zq6]
    (first | (refine tkR 3 (v := ?_) rfl hS ⟨by rfl, ?_⟩ ?_; rotate_left; intro w h; (try dsimp only at h); first | (go_simp; done) | (go_simp; with_reducible rfl)) | refine skR 3 rfl (fun _ => hS) (by rfl) ?_); simp only [zq1, zq2, zq3, Act.put, zq4, zq5, zq6]
    (first | (refine tkR 4 (v := ?_) rfl hS ⟨by rfl, ?_⟩ ?_; rotate_left; intro w h; (try dsimp only at h); first | (go_simp; done) | (go_simp; with_reducible rfl)) | refine skR 4 rfl (fun _ => hS) (by rfl) ?_); simp only [zq1, zq2, zq3, Act.put, zq4, zq5, zq6]
    (first | (refine tkR 5 (v := ?_) rfl hS ⟨by rfl, ?_⟩ ?_; rotate_left; intro w h; (try dsimp only at h); first | (go_simp; done) | (go_simp; with_reducible rfl)) | refine skR 5 rfl (fun _ => hS) (by rfl) ?_); simp only [zq1, zq2, zq3, Act.put, zq4, zq5, zq6]
    (first | (refine tkR 6 (v := ?_) rfl hS ⟨by rfl, ?_⟩ ?_; rotate_left; intro w h; (try dsimp only at h); first | (go_simp; done) | (go_simp; with_reducible rfl)) | refine skR 6 rfl (fun _ => hS) (by rfl) ?_); simp only [zq1, zq2, zq3, Act.put, zq4, zq5, zq6]
    refine wpAnyR_one 7 rfl (by kernel_rfl) (fun K hK => ?_)
    go_simp
    go_at_call 27
    refine (there_any (k : Int) (P.nt : Int) w1).mono ?_
    rintro e w2 ⟨rfl, rfl⟩
    rw [HI.out]
    refine hK.out _ _ (fun _ => hS) ?_
    clear hK K
    (first | (refine tkR 8 (v := ?_) rfl hS ⟨by rfl, ?_⟩ ?_; rotate_left; intro w h; (try dsimp only at h); first | (go_simp; done) | (go_simp; with_reducible rfl)) | refine skR 8 rfl (fun _ => hS) (by rfl) ?_); simp only [zq1, zq2, zq3, Act.put, zq4, zq5, zq6]
    refine wpAnyR_done (by kernel_rfl) ?_ _
    have HS1 := Lib.hid (HS.out.kept0 HK1.out)
    have HR1 := Lib.hid (HR.out.kept0 HK1.out)
    have HB1 := Lib.hid (HB.out.move (⟨HK1.out, fun _ _ => rfl⟩ : Mv lg lg S0 _ _) (fun _ e => e.elim))
    have HM1 := Lib.hid (show Mv lab lg S0 w w1 from ⟨HM.out.k.then0 HK1.out, HM.out.l⟩)
    have HBX1 := Lib.hid (HK1.out.blk HBX.out (fun x => x))
    have d0 : w1.cell? ⟨bx, 0, none⟩ = some (.int .i64 10) := HBX1.out.cell 0
    have d1 : w1.cell? ⟨bx, 1, none⟩ = some (.int .i64 (k : Int)) := keep0 HK1.out c1
    have d2 : w1.cell? ⟨bx, 2, none⟩ = some (.int .u32 x.n) := HBX1.out.cell 2
    have q1 := keep0 HK1.out r1
    have q2 := keep0 HK1.out r2
    obtain ⟨m, hmm⟩ : ∃ m, m = x.n.toNat := ⟨_, rfl⟩
    have hm : x.n = (m : Int) := by have := HX.out.n1; omega
    rw [hm] at d2
    have hmx : m ≤ 4294967295 := by have := HX.out.n2; omega
    have HMM := Lib.hid hmm
    have HLB := Lib.hid (show lg bx = 0 from HL.out)
    have HLR := Lib.hid (show ∀ g, u.tl.ownBlock = some g → lg g = 2 from HR1.out.ls.lt)
    have HRL := Lib.hid (show lg rg = 2 from HR1.out.ls.lt rg (by rw [HRV.out]; rfl))
    have HBL := Lib.hid HR1.out.ls.l
    have HMX := Lib.hid hmx
    clear hm hmm hw1 c0 c1 c2 c18 c19 c20 r1 r2 HS HR HB HM HBX HK1 hS hmx
    go_wp2_with fail
    refine wp_region_R (fun w' => w'.cell? ⟨bx, 1, none⟩ = some (.int .i64 (k : Int)) ∧ w'.cell? ⟨bx, 2, none⟩ = some (.int .u32 (m : Int)) ∧ w'.cell? ⟨bx, 18, none⟩ = some (.int .u8 x.x.t) ∧ w'.cell? ⟨bx, 19, none⟩ = some (.int .u64 x.x.lo) ∧ w'.cell? ⟨bx, 20, none⟩ = some (.int .u64 x.x.hi) ∧ w'.cell? ⟨rb, 1, none⟩ = some (.slice (some ⟨rg, 0, none⟩) P.nt rc) ∧ w'.cell? ⟨rg, k, none⟩ = some (.pointer (some ⟨ro, 0, none⟩))) [] (by kernel_rfl) ?_
    have HK2 := Lib.hid ((Kept.refl S0 w1).drew)
    have hX := HK2.out.blk HBX1.out (fun x => x)
    have hS : w1.drew.cell? ⟨bx, 1, none⟩ = some (.int .i64 (k : Int)) ∧ w1.drew.cell? ⟨bx, 2, none⟩ = some (.int .u32 (m : Int)) ∧ w1.drew.cell? ⟨bx, 18, none⟩ = some (.int .u8 x.x.t) ∧ w1.drew.cell? ⟨bx, 19, none⟩ = some (.int .u64 x.x.lo) ∧ w1.drew.cell? ⟨bx, 20, none⟩ = some (.int .u64 x.x.hi) ∧ w1.drew.cell? ⟨rb, 1, none⟩ = some (.slice (some ⟨rg, 0, none⟩) P.nt rc) ∧ w1.drew.cell? ⟨rg, k, none⟩ = some (.pointer (some ⟨ro, 0, none⟩)) := ⟨keep0 HK2.out d1, keep0 HK2.out d2, hX.cell 18, hX.cell 19, hX.cell 20, keep0 HK2.out q1, keep0 HK2.out q2⟩
    have HS2 := Lib.hid (HS1.out.kept0 HK2.out)
    have HR2 := Lib.hid (HR1.out.kept0 HK2.out)
    have HM2 := Lib.hid (show Mv lab lg S0 w w1.drew from ⟨HM1.out.k.drew, HM1.out.l⟩)
    clear hX d0 d1 d2 q1 q2 HS1 HR1 HB1 HM1 HBX1 HK2
    generalize w1.drew = w2 at *
    (first | (refine tkR 0 (v := ?_) rfl hS ⟨by rfl, ?_⟩ ?_; rotate_left; intro w h; (try dsimp only at h); first | (go_simp; done) | (go_simp; with_reducible rfl)) | refine skR 0 rfl (fun _ => hS) (by rfl) ?_); simp only [zq1, zq2, Act.put, zq4, zq5, zq6]
    (first | (refine tkR 1 (v := ?_) rfl hS ⟨by rfl, ?_⟩ ?_; rotate_left; intro w h; (try dsimp only at h); first | (go_simp; done) | (go_simp; with_reducible rfl)) | refine skR 1 rfl (fun _ => hS) (by rfl) ?_); simp only [zq1, zq2, zq3, Act.put, zq4, zq5, zq6]
    (first | (refine tkR 2 (v := ?_) rfl hS ⟨by rfl, ?_⟩ ?_; rotate_left; intro w h; (try dsimp only at h); first | (go_simp; done) | (go_simp; with_reducible rfl)) | refine skR 2 rfl (fun _ => hS) (by rfl) ?_); simp only [zq1, zq2, zq3, Act.put, zq4, zq5, zq6]
    (first | (refine tkR 3 (v := ?_) rfl hS ⟨by rfl, ?_⟩ ?_; rotate_left; intro w h; (try dsimp only at h); first | (go_simp; done) | (go_simp; with_reducible rfl)) | refine skR 3 rfl (fun _ => hS) (by rfl) ?_); simp only [zq1, zq2, zq3, Act.put, zq4, zq5, zq6]
    (first | (refine tkR 4 (v := ?_) rfl hS ⟨by rfl, ?_⟩ ?_; rotate_left; intro w h; (try dsimp only at h); first | (go_simp; done) | (go_simp; with_reducible rfl)) | refine skR 4 rfl (fun _ => hS) (by rfl) ?_); simp only [zq1, zq2, zq3, Act.put, zq4, zq5, zq6]
    (first | (refine tkR 6 (v := ?_) rfl hS ⟨by rfl, ?_⟩ ?_; rotate_left; intro w h; (try dsimp only at h); first | (go_simp; done) | (go_simp; with_reducible rfl)) | refine skR 6 rfl (fun _ => hS) (by rfl) ?_); simp only [zq1, zq2, zq3, Act.put, zq4, zq5, zq6]
    (first | (refine tkR 7 (v := ?_) rfl hS ⟨by rfl, ?_⟩ ?_; rotate_left; intro w h; (try dsimp only at h); first | (go_simp; done) | (go_simp; with_reducible rfl)) | refine skR 7 rfl (fun _ => hS) (by rfl) ?_); simp only [zq1, zq2, zq3, Act.put, zq4, zq5, zq6]
    (first | (refine tkR 8 (v := ?_) rfl hS ⟨by rfl, ?_⟩ ?_; rotate_left; intro w h; (try dsimp only at h); first | (go_simp; done) | (go_simp; with_reducible rfl)) | refine skR 8 rfl (fun _ => hS) (by rfl) ?_); simp only [zq1, zq2, zq3, Act.put, zq4, zq5, zq6]
    (first | (refine tkR 9 (v := ?_) rfl hS ⟨by rfl, ?_⟩ ?_; rotate_left; intro w h; (try dsimp only at h); first | (go_simp; done) | (go_simp; with_reducible rfl)) | refine skR 9 rfl (fun _ => hS) (by rfl) ?_); simp only [zq1, zq2, zq3, Act.put, zq4, zq5, zq6]
    (first | (refine tkR 10 (v := ?_) rfl hS ⟨by rfl, ?_⟩ ?_; rotate_left; intro w h; (try dsimp only at h); first | (go_simp; done) | (go_simp; with_reducible rfl)) | refine skR 10 rfl (fun _ => hS) (by rfl) ?_); simp only [zq1, zq2, zq3, Act.put, zq4, zq5, zq6]
    (first | (refine tkR 11 (v := ?_) rfl hS ⟨by rfl, ?_⟩ ?_; rotate_left; intro w h; (try dsimp only at h); first | (go_simp; done) | (go_simp; with_reducible rfl)) | refine skR 11 rfl (fun _ => hS) (by rfl) ?_); simp only [zq1, zq2, zq3, Act.put, zq4, zq5, zq6]
    (first | (refine tkR 12 (v := ?_) rfl hS ⟨by rfl, ?_⟩ ?_; rotate_left; intro w h; (try dsimp only at h); first | (go_simp; done) | (go_simp; with_reducible rfl)) | refine skR 12 rfl (fun _ => hS) (by rfl) ?_); simp only [zq1, zq2, zq3, Act.put, zq4, zq5, zq6]
    (first | (refine tkR 13 (v := ?_) rfl hS ⟨by rfl, ?_⟩ ?_; rotate_left; intro w h; (try dsimp only at h); first | (go_simp; done) | (go_simp; with_reducible rfl)) | refine skR 13 rfl (fun _ => hS) (by rfl) ?_); simp only [zq1, zq2, zq3, Act.put, zq4, zq5, zq6]
    (first | (refine tkR 14 (v := ?_) rfl hS ⟨by rfl, ?_⟩ ?_; rotate_left; intro w h; (try dsimp only at h); first | (go_simp; done) | (go_simp; with_reducible rfl)) | refine skR 14 rfl (fun _ => hS) (by rfl) ?_); simp only [zq1, zq2, zq3, Act.put, zq4, zq5, zq6]
    (first | (refine tkR 15 (v := ?_) rfl hS ⟨by rfl, ?_⟩ ?_; rotate_left; intro w h; (try dsimp only at h); first | (go_simp; done) | (go_simp; with_reducible rfl)) | refine skR 15 rfl (fun _ => hS) (by rfl) ?_); simp only [zq1, zq2, zq3, Act.put, zq4, zq5, zq6]
    (first | (refine tkR 16 (v := ?_) rfl hS ⟨by rfl, ?_⟩ ?_; rotate_left; intro w h; (try dsimp only at h); first | (go_simp; done) | (go_simp; with_reducible rfl)) | refine skR 16 rfl (fun _ => hS) (by rfl) ?_); simp only [zq1, zq2, zq3, Act.put, zq4, zq5, zq6]
    (first | (refine tkR 17 (v := ?_) rfl hS ⟨by rfl, ?_⟩ ?_; rotate_left; intro w h; (try dsimp only at h); first | (go_simp; done) | (go_simp; with_reducible rfl)) | refine skR 17 rfl (fun _ => hS) (by rfl) ?_); simp only [zq1, zq2, zq3, Act.put, zq4, zq5, zq6]
    refine wpAnyR_one 5 rfl (by kernel_rfl) (fun K hK => ?_)
    go_simp
    go_at_call 112
    refine (s_tset m x.x HMX.out HX.out.v HS2.out HKL.out HF1.out).mono ?_
    rintro e w3 ⟨rfl, lab2, v2, hs3, m3⟩
    have hb3 : ∀ b, lg b = 0 ∨ lg b = 2 → ¬ (lg b % 2 = 1) := fun b h e => by omega
    have hS3 : w3.cell? ⟨bx, 1, none⟩ = some (.int .i64 (k : Int)) ∧ w3.cell? ⟨bx, 2, none⟩ = some (.int .u32 (m : Int)) ∧ w3.cell? ⟨bx, 18, none⟩ = some (.int .u8 x.x.t) ∧ w3.cell? ⟨bx, 19, none⟩ = some (.int .u64 x.x.lo) ∧ w3.cell? ⟨bx, 20, none⟩ = some (.int .u64 x.x.hi) ∧ w3.cell? ⟨rb, 1, none⟩ = some (.slice (some ⟨rg, 0, none⟩) P.nt rc) ∧ w3.cell? ⟨rg, k, none⟩ = some (.pointer (some ⟨ro, 0, none⟩)) := by
      obtain ⟨s1, s2, s3, s4, s5, s6, s7⟩ := hS
      have kk : ∀ {b j : Nat} {y : Value}, (lg b = 0 ∨ lg b = 2) → w2.cell? ⟨b, j, none⟩ = some y → w3.cell? ⟨b, j, none⟩ = some y := fun hl hc => (m3.k.cell (World.block_lt_of_cell? _ _ hc) (hb3 _ hl)).trans hc
      exact ⟨kk (.inl HLB.out) s1, kk (.inl HLB.out) s2, kk (.inl HLB.out) s3, kk (.inl HLB.out) s4, kk (.inl HLB.out) s5, kk (.inr HBL.out) s6, kk (.inr HRL.out) s7⟩
    have HS3 := Lib.hid hs3
    have HR3 := Lib.hid (HR2.out.move m3 (fun _ _ x => x))
    have HM3 := Lib.hid m3
    have HLB3 := Lib.hid (show ∀ b, b < w2.heap.size → lab2 b = lg b from m3.l)
    have HZ := Lib.hid (show bx < w2.heap.size ∧ rb < w2.heap.size ∧ rg < w2.heap.size from ⟨World.block_lt_of_cell? _ _ hS.1, World.block_lt_of_cell? _ _ hS.2.2.2.2.2.1, World.block_lt_of_cell? _ _ hS.2.2.2.2.2.2⟩)
    refine hK.out _ _ (fun _ => hS3) ?_
    clear hK K hS hs3 m3 hb3
    refine wpAnyR_one 18 rfl (by kernel_rfl) (fun K hK => ?_)
    go_simp
    go_at_call 113
    refine (r_tset m x.x HMX.out HX.out.v HR3.out HKL.out HG1.out).mono ?_
    rintro e w4 ⟨rfl, ⟨lab3, u3, hr4, m4⟩, hk4⟩
    have hS4 : w4.cell? ⟨bx, 1, none⟩ = some (.int .i64 (k : Int)) ∧ w4.cell? ⟨bx, 2, none⟩ = some (.int .u32 (m : Int)) ∧ w4.cell? ⟨bx, 18, none⟩ = some (.int .u8 x.x.t) ∧ w4.cell? ⟨bx, 19, none⟩ = some (.int .u64 x.x.lo) ∧ w4.cell? ⟨bx, 20, none⟩ = some (.int .u64 x.x.hi) ∧ w4.cell? ⟨rb, 1, none⟩ = some (.slice (some ⟨rg, 0, none⟩) P.nt rc) ∧ w4.cell? ⟨rg, k, none⟩ = some (.pointer (some ⟨ro, 0, none⟩)) := by
      obtain ⟨s1, s2, s3, s4, s5, s6, s7⟩ := hS3
      have kk : ∀ {b j : Nat} {y : Value}, b < w2.heap.size → (lg b = 0 ∨ lg b = 2) → w3.cell? ⟨b, j, none⟩ = some y → w4.cell? ⟨b, j, none⟩ = some y := fun {b} {j} {y} hb hl hc => (hk4.cell (World.block_lt_of_cell? _ _ hc) (fun e => by have := HLB3.out b hb; have e' : lab2 b = 4 * k + 4 := e; omega)).trans hc
      exact ⟨kk HZ.out.1 (.inl HLB.out) s1, kk HZ.out.1 (.inl HLB.out) s2, kk HZ.out.1 (.inl HLB.out) s3, kk HZ.out.1 (.inl HLB.out) s4, kk HZ.out.1 (.inl HLB.out) s5, kk HZ.out.2.1 (.inr HBL.out) s6, kk HZ.out.2.2 (.inr HRL.out) s7⟩
    have HFF := Lib.hid (show BDone w0.heap.size lab w w4 sb rb (tsetP P k m x.x) (tsetP P k m x.x) from ⟨lab3, v2, u3, HS3.out.move m4 (fun _ _ x => x), hr4, Mv.three HM2.out HM3.out m4⟩)
    refine hK.out _ _ (fun _ => hS4) ?_
    clear hK K hS3 hr4 m4 hk4
    (first | (refine tkR 19 (v := ?_) rfl hS4 ⟨by rfl, ?_⟩ ?_; rotate_left; intro w h; (try dsimp only at h); first | (go_simp; done) | (go_simp; with_reducible rfl)) | refine skR 19 rfl (fun _ => hS4) (by rfl) ?_); simp only [zq1, zq2, zq3, Act.put, zq4, zq5, zq6]
    (first | (refine tkR 20 (v := ?_) rfl hS4 ⟨by rfl, ?_⟩ ?_; rotate_left; intro w h; (try dsimp only at h); first | (go_simp; done) | (go_simp; with_reducible rfl)) | refine skR 20 rfl (fun _ => hS4) (by rfl) ?_); simp only [zq1, zq2, zq3, Act.put, zq4, zq5, zq6]
    clear hS4
    refine wpAnyR_done (by kernel_rfl) ?_ _
    go_wp2_with fail
    go_ret
    exact ⟨rfl, by rw [← HMM.out]; exact HFF.out⟩
end
end Go.Proofs.YtlnkdnmeikpckaaGreat
namespace Go.Proofs.YtlnkdnmeikpckaaGreat
open Go.RowKit
set_option maxRecDepth 100000
section
variable {w0 w : World} {sb rb : Nat} {lab : Nat → Nat} {P : PSt} {v u : SV}
set_option maxRecDepth 100000 in
set_option maxHeartbeats 6400000 in
theorem change_11 (x : ActP) (hx : ActOk w0 x) (hs : SAt w0.heap.size lab w sb P v) (hr : RAt w0.heap.size lab w rb P u) (hb : Bas w0 lab w) (hP : P.Le 200) :
    Calls Tryz.prog 77 #[.pointer (some ⟨sb, 0, none⟩), .pointer (some ⟨rb, 0, none⟩), .agg (x.cells 11)] w fun e w' => e = .returned (.bool true) ∧ BDone w0.heap.size lab w w' sb rb (changeP P 11 x) (changeP P 11 x) := by
  have hka : Kept S0 w (w.alloc (.cells (x.cells 11) 79)) := (Kept.refl S0 w).alloc _
  have HBX := Lib.hid (Blk.new w 79 (x.cells 11))
  have HS := Lib.hid (hs.fresh hka)
  have HR := Lib.hid (hr.fresh hka)
  have HB := Lib.hid (hb.fresh hka)
  have HM := Lib.hid (lab0_mv (lab := lab) hka S0)
  have HX := Lib.hid hx
  have HL := Lib.hid (lab0_new (lab := lab) (Nat.le_refl w.heap.size))
  clear hx hs hr hb hka
  have c0 : (w.alloc (.cells (x.cells 11) 79)).cell? ⟨w.heap.size, 0, none⟩ = some (.int .i64 11) := HBX.out.cell 0
  have c1 : (w.alloc (.cells (x.cells 11) 79)).cell? ⟨w.heap.size, 1, none⟩ = some (.int .i64 x.a) := HBX.out.cell 1
  have c2 : (w.alloc (.cells (x.cells 11) 79)).cell? ⟨w.heap.size, 2, none⟩ = some (.int .u32 x.n) := HBX.out.cell 2
  have c18 : (w.alloc (.cells (x.cells 11) 79)).cell? ⟨w.heap.size, 18, none⟩ = some (.int .u8 x.x.t) := HBX.out.cell 18
  have c19 : (w.alloc (.cells (x.cells 11) 79)).cell? ⟨w.heap.size, 19, none⟩ = some (.int .u64 x.x.lo) := HBX.out.cell 19
  have c20 : (w.alloc (.cells (x.cells 11) 79)).cell? ⟨w.heap.size, 20, none⟩ = some (.int .u64 x.x.hi) := HBX.out.cell 20
  have hn : P.nt ≤ 65536 := by have := hP.t; omega
  cases hi : isIn x.a P.nt with
  | false =>
    have hg := gettable_out x.a HS.out.ls.obj HS.out.ls.t hn (isIn_not hi)
    obtain ⟨rA, rc, hrl, _, _, _⟩ := HR.out.ls.t.out
    have r1 : (w.alloc (.cells (x.cells 11) 79)).cell? ⟨rb, 1, none⟩ = some (.slice rA P.nt rc) := by rw [← hrl]; exact HR.out.ls.obj.cell 1
    rw [show changeP P 11 x = P from by simp [changeP, hi]]
    have HI := Lib.hid hi
    clear hi hrl
    go_enter Tryz.func77, Tryz.ntmps77
    go_wp2_with fail
    refine hg.mono ?_
    clear hg
    rintro e w2 ⟨rfl, rfl⟩
    go_wp2_with fail
    generalize w.heap.size = bx at *
    generalize hlg : lab0 lab w = lg at *
    clear hlg
    refine wp_region_R (fun w' => w'.cell? ⟨bx, 1, none⟩ = some (.int .i64 x.a) ∧ w'.cell? ⟨rb, 1, none⟩ = some (.slice rA P.nt rc)) [] (by kernel_rfl) ?_
    have hS : (w.alloc (.cells (x.cells 11) 79)).drew.cell? ⟨bx, 1, none⟩ = some (.int .i64 x.a) ∧ (w.alloc (.cells (x.cells 11) 79)).drew.cell? ⟨rb, 1, none⟩ = some (.slice rA P.nt rc) := ⟨c1, r1⟩
    have HF := Lib.hid (show BDone w0.heap.size lab w (w.alloc (.cells (x.cells 11) 79)).drew sb rb P P from ⟨lg, v, u, HS.out.kept0 ((Kept.refl S0 _).drew), HR.out.kept0 ((Kept.refl S0 _).drew), HM.out.k.drew.of0 _, HM.out.l⟩)
    clear c0 c1 c2 c18 c19 c20 r1 HS HR HB HM HBX
    generalize (w.alloc (.cells (x.cells 11) 79)).drew = w1 at *
    (first | (refine tkR 0 (v := ?_) rfl hS ⟨by rfl, ?_⟩ ?_; rotate_left; intro w h; (try dsimp only at h); first | (go_simp; done) | (go_simp; with_reducible rfl)) | refine skR 0 rfl (fun _ => hS) (by rfl) ?_); simp only [zq1, zq2, Act.put, zq4, zq5, zq6]
    (first | (refine tkR 1 (v := ?_) rfl hS ⟨by rfl, ?_⟩ ?_; rotate_left; intro w h; (try dsimp only at h); first | (go_simp; done) | (go_simp; with_reducible rfl)) | refine skR 1 rfl (fun _ => hS) (by rfl) ?_); simp only [zq1, zq2, zq3, Act.put, zq4, zq5, zq6]
    (first | (refine tkR 2 (v := ?_) rfl hS ⟨by rfl, ?_⟩ ?_; rotate_left; intro w h; (try dsimp only at h); first | (go_simp; done) | (go_simp; with_reducible rfl)) | refine skR 2 rfl (fun _ => hS) (by rfl) ?_); simp only [zq1, zq2, zq3, Act.put, zq4, zq5, zq6]
    (first | (refine tkR 3 (v := ?_) rfl hS ⟨by rfl, ?_⟩ ?_; rotate_left; intro w h; (try dsimp only at h); first | (go_simp; done) | (go_simp; with_reducible rfl)) | refine skR 3 rfl (fun _ => hS) (by rfl) ?_); simp only [zq1, zq2, zq3, Act.put, zq4, zq5, zq6]
    (first | (refine tkR 4 (v := ?_) rfl hS ⟨by rfl, ?_⟩ ?_; rotate_left; intro w h; (try dsimp only at h); first | (go_simp; done) | (go_simp; with_reducible rfl)) | refine skR 4 rfl (fun _ => hS) (by rfl) ?_); simp only [zq1, zq2, zq3, Act.put, zq4, zq5, zq6]
    (first | (refine tkR 5 (v := ?_) rfl hS ⟨by rfl, ?_⟩ ?_; rotate_left; intro w h; (try dsimp only at h); first | (go_simp; done) | (go_simp; with_reducible rfl)) | refine skR 5 rfl (fun _ => hS) (by rfl) ?_); simp only [zq1, zq2, zq3, Act.put, zq4, zq5, zq6]
    (first | (refine tkR 6 (v := ?_) rfl hS ⟨by rfl, ?_⟩ ?_; rotate_left; intro w h; (try dsimp only at h); first | (go_simp; done) | (go_simp; with_reducible rfl)) | refine skR 6 rfl (fun _ => hS) (by rfl) ?_); simp only [zq1, zq2, zq3, Act.put, zq4, zq5, zq6]
    refine wpAnyR_one 7 rfl (by kernel_rfl) (fun K hK => ?_)
    go_simp
    go_at_call 27
    refine (there_any x.a (P.nt : Int) w1).mono ?_
    rintro e w2 ⟨rfl, rfl⟩
    rw [inA_isIn, HI.out]
    refine hK.out _ _ (fun _ => hS) ?_
    clear hK K
    (first | (refine tkR 8 (v := ?_) rfl hS ⟨by rfl, ?_⟩ ?_; rotate_left; intro w h; (try dsimp only at h); first | (go_simp; done) | (go_simp; with_reducible rfl)) | refine skR 8 rfl (fun _ => hS) (by rfl) ?_); simp only [zq1, zq2, zq3, Act.put, zq4, zq5, zq6]
    refine wpAnyR_done (by kernel_rfl) ?_ _
    go_wp2_with fail
    go_ret
    exact ⟨rfl, HF.out⟩
  | true =>
    obtain ⟨k, hxa, hk⟩ := isIn_nat hi
    obtain ⟨tb, mn, lt, hF, hta, _, _⟩ := (HS.out.tb k hk).ex
    obtain ⟨ro, mr, lr, hG, hra, _, _⟩ := (HR.out.tb k hk).ex
    have hg := gettable_in k _ HS.out.ls.obj HS.out.ls.t hn hk hF
    obtain ⟨rg, rc, hrl, _, _⟩ := HR.out.ls.t.is_some (by omega)
    have hrt := HR.out.ls.t
    rw [hrl] at hrt
    have r1 : (w.alloc (.cells (x.cells 11) 79)).cell? ⟨rb, 1, none⟩ = some (.slice (some ⟨rg, 0, none⟩) P.nt rc) := by rw [← hrl]; exact HR.out.ls.obj.cell 1
    have r2 : (w.alloc (.cells (x.cells 11) 79)).cell? ⟨rg, k, none⟩ = some (.pointer (some ⟨ro, 0, none⟩)) := by rw [← hG]; exact hrt.rowcell (by omega)
    rw [show changeP P 11 x = tgrowP P k (x.n.toNat % 50) x.x from by have hi' : isIn (k : Int) P.nt = true := hxa ▸ hi; simp [changeP, hxa, hi']]
    have hki : (k : Int) < (P.nt : Int) := by omega
    have HI := Lib.hid (show inA (k : Int) (P.nt : Int) = true by rw [inA_isIn, ← hxa]; exact hi)
    have HF1 := Lib.hid hF
    have HRV := Lib.hid hrl
    have HG1 := Lib.hid hG
    have HKL := Lib.hid hk
    rw [hxa] at c1
    clear hi hrl hrt hF hG hta hra hn
    go_enter Tryz.func77, Tryz.ntmps77
    go_wp2_with fail
    refine hg.mono ?_
    clear hg
    rintro e w2 ⟨rfl, rfl⟩
    go_wp2_with fail
    generalize w.heap.size = bx at *
    generalize hlg : lab0 lab w = lg at *
    clear hlg
    refine wp_region_R (fun w' => w'.cell? ⟨bx, 1, none⟩ = some (.int .i64 (k : Int)) ∧ w'.cell? ⟨rb, 1, none⟩ = some (.slice (some ⟨rg, 0, none⟩) P.nt rc)) [] (by kernel_rfl) ?_
    have hS : (w.alloc (.cells (x.cells 11) 79)).drew.cell? ⟨bx, 1, none⟩ = some (.int .i64 (k : Int)) ∧ (w.alloc (.cells (x.cells 11) 79)).drew.cell? ⟨rb, 1, none⟩ = some (.slice (some ⟨rg, 0, none⟩) P.nt rc) := ⟨c1, r1⟩
    have HK1 := Lib.hid ((Kept.refl S0 (w.alloc (.cells (x.cells 11) 79))).drew)
    generalize hw1 : (w.alloc (.cells (x.cells 11) 79)).drew = w1 at *
    (first | (refine tkR 0 (v := ?_) rfl hS ⟨by rfl, ?_⟩ ?_; rotate_left; intro w h; (try dsimp only at h); first | (go_simp; done) | (go_simp; with_reducible rfl)) | refine skR 0 rfl (fun _ => hS) (by rfl) ?_); simp only [zq1, zq2, Act.put, zq4, zq5, zq6]
    (first | (refine tkR 1 (v := ?_) rfl hS ⟨by rfl, ?_⟩ ?_; rotate_left; intro w h; (try dsimp only at h); first | (go_simp; done) | (go_simp; with_reducible rfl)) | refine skR 1 rfl (fun _ => hS) (by rfl) ?_); simp only [zq1, zq2, zq3, Act.put, zq4, zq5, zq6]
    (first | (refine tkR 2 (v := ?_) rfl hS ⟨by rfl, ?_⟩ ?_; rotate_left; intro w h; (try dsimp only at h); first | (go_simp; done) | (go_simp; with_reducible rfl)) | refine skR 2 rfl (fun _ => hS) (by rfl) ?_); simp only [zq1, zq2, zq3, Act.put, zq4, zq5, zq6]
    (first | (refine tkR 3 (v := ?_) rfl hS ⟨by rfl, ?_⟩ ?_; rotate_left; intro w h; (try dsimp only at h); first | (go_simp; done) | (go_simp; with_reducible rfl)) | refine skR 3 rfl (fun _ => hS) (by rfl) ?_); simp only [zq1, zq2, zq3, Act.put, zq4, zq5, zq6]
    (first | (refine tkR 4 (v := ?_) rfl hS ⟨by rfl, ?_⟩ ?_; rotate_left; intro w h; (try dsimp only at h); first | (go_simp; done) | (go_simp; with_reducible rfl)) | refine skR 4 rfl (fun _ => hS) (by rfl) ?_); simp only [zq1, zq2, zq3, Act.put, zq4, zq5, zq6]
    (first | (refine tkR 5 (v := ?_) rfl hS ⟨by rfl, ?_⟩ ?_; rotate_left; intro w h; (try dsimp only at h); first | (go_simp; done) | (go_simp; with_reducible rfl)) | refine skR 5 rfl (fun _ => hS) (by rfl) ?_); simp only [zq1, zq2, zq3, Act.put, zq4, zq5, zq6]
    (first | (refine tkR 6 (v := ?_) rfl hS ⟨by rfl, ?_⟩ ?_; rotate_left; intro w h; (try dsimp only at h); first | (go_simp; done) | (go_simp; with_reducible rfl)) | refine skR 6 rfl (fun _ => hS) (by rfl) ?_); simp only [zq1, zq2, zq3, Act.put, zq4, zq5, zq6]
    refine wpAnyR_one 7 rfl (by kernel_rfl) (fun K hK => ?_)
    go_simp
    go_at_call 27
    refine (there_any (k : Int) (P.nt : Int) w1).mono ?_
    rintro e w2 ⟨rfl, rfl⟩
    rw [HI.out]
    refine hK.out _ _ (fun _ => hS) ?_
    clear hK K
    (first | (refine tkR 8 (v := ?_) rfl hS ⟨by rfl, ?_⟩ ?_; rotate_left; intro w h; (try dsimp only at h); first | (go_simp; done) | (go_simp; with_reducible rfl)) | refine skR 8 rfl (fun _ => hS) (by rfl) ?_); simp only [zq1, zq2, zq3, Act.put, zq4, zq5, zq6]
    refine wpAnyR_done (by kernel_rfl) ?_ _
    have HS1 := Lib.hid (HS.out.kept0 HK1.out)
    have HR1 := Lib.hid (HR.out.kept0 HK1.out)
    have HB1 := Lib.hid (HB.out.move (⟨HK1.out, fun _ _ => rfl⟩ : Mv lg lg S0 _ _) (fun _ e => e.elim))
    have HM1 := Lib.hid (show Mv lab lg S0 w w1 from ⟨HM.out.k.then0 HK1.out, HM.out.l⟩)
    have HBX1 := Lib.hid (HK1.out.blk HBX.out (fun x => x))
    have d0 : w1.cell? ⟨bx, 0, none⟩ = some (.int .i64 11) := HBX1.out.cell 0
    have d1 : w1.cell? ⟨bx, 1, none⟩ = some (.int .i64 (k : Int)) := keep0 HK1.out c1
    have d2 : w1.cell? ⟨bx, 2, none⟩ = some (.int .u32 x.n) := HBX1.out.cell 2
    have q1 := keep0 HK1.out r1
    have q2 := keep0 HK1.out r2
    obtain ⟨m, hmm⟩ : ∃ m, m = x.n.toNat := ⟨_, rfl⟩
    have hm : x.n = (m : Int) := by have := HX.out.n1; omega
    rw [hm] at d2
    have hmx : m ≤ 4294967295 := by have := HX.out.n2; omega
    have HMM := Lib.hid hmm
    have HLB := Lib.hid (show lg bx = 0 from HL.out)
    have HLR := Lib.hid (show ∀ g, u.tl.ownBlock = some g → lg g = 2 from HR1.out.ls.lt)
    have HRL := Lib.hid (show lg rg = 2 from HR1.out.ls.lt rg (by rw [HRV.out]; rfl))
    have HBL := Lib.hid HR1.out.ls.l
    have HMX := Lib.hid hmx
    clear hm hmm hw1 c0 c1 c2 c18 c19 c20 r1 r2 HS HR HB HM HBX HK1 hS hmx
    have d18 : w1.cell? ⟨bx, 18, none⟩ = some (.int .u8 x.x.t) := HBX1.out.cell 18
    have d19 : w1.cell? ⟨bx, 19, none⟩ = some (.int .u64 x.x.lo) := HBX1.out.cell 19
    have d20 : w1.cell? ⟨bx, 20, none⟩ = some (.int .u64 x.x.hi) := HBX1.out.cell 20
    have hrm : Int.tmod (m : Int) 50 = ((m % 50 : Nat) : Int) := rfl
    go_wp2_with fail
    refine (s_tgrow (m % 50) x.x (by omega) HX.out.v HS1.out HB1.out.size HKL.out HF1.out).mono ?_
    rintro e w3 ⟨rfl, lab2, v2, hs3, m3⟩
    have hb3 : ∀ b, lg b = 0 ∨ lg b = 2 → ¬ (lg b % 2 = 1) := fun b h e => by omega
    have hS3 : w3.cell? ⟨bx, 1, none⟩ = some (.int .i64 (k : Int)) ∧ w3.cell? ⟨bx, 2, none⟩ = some (.int .u32 (m : Int)) ∧ w3.cell? ⟨bx, 18, none⟩ = some (.int .u8 x.x.t) ∧ w3.cell? ⟨bx, 19, none⟩ = some (.int .u64 x.x.lo) ∧ w3.cell? ⟨bx, 20, none⟩ = some (.int .u64 x.x.hi) ∧ w3.cell? ⟨rb, 1, none⟩ = some (.slice (some ⟨rg, 0, none⟩) P.nt rc) ∧ w3.cell? ⟨rg, k, none⟩ = some (.pointer (some ⟨ro, 0, none⟩)) := by
      have kk : ∀ {b j : Nat} {y : Value}, (lg b = 0 ∨ lg b = 2) → w1.cell? ⟨b, j, none⟩ = some y → w3.cell? ⟨b, j, none⟩ = some y := fun hl hc => (m3.k.cell (World.block_lt_of_cell? _ _ hc) (hb3 _ hl)).trans hc
      exact ⟨kk (.inl HLB.out) d1, kk (.inl HLB.out) d2, kk (.inl HLB.out) d18, kk (.inl HLB.out) d19, kk (.inl HLB.out) d20, kk (.inr HBL.out) q1, kk (.inr HRL.out) q2⟩
    have HZ := Lib.hid (show bx < w1.heap.size ∧ rb < w1.heap.size ∧ rg < w1.heap.size from ⟨World.block_lt_of_cell? _ _ d1, World.block_lt_of_cell? _ _ q1, World.block_lt_of_cell? _ _ q2⟩)
    have HS3 := Lib.hid hs3
    have HR3 := Lib.hid (HR1.out.move m3 (fun _ _ x => x))
    have HM3 := Lib.hid m3
    have HLB3 := Lib.hid (show ∀ b, b < w1.heap.size → lab2 b = lg b from m3.l)
    have HW3 := Lib.hid (show w0.heap.size ≤ w3.heap.size from Nat.le_trans HB1.out.size m3.k.size)
    clear d0 d1 d2 d18 d19 d20 q1 q2 hs3 m3 hb3
    go_wp2_with fail
    refine wp_region_R (fun w' => w'.cell? ⟨bx, 1, none⟩ = some (.int .i64 (k : Int)) ∧ w'.cell? ⟨bx, 2, none⟩ = some (.int .u32 (m : Int)) ∧ w'.cell? ⟨bx, 18, none⟩ = some (.int .u8 x.x.t) ∧ w'.cell? ⟨bx, 19, none⟩ = some (.int .u64 x.x.lo) ∧ w'.cell? ⟨bx, 20, none⟩ = some (.int .u64 x.x.hi) ∧ w'.cell? ⟨rb, 1, none⟩ = some (.slice (some ⟨rg, 0, none⟩) P.nt rc) ∧ w'.cell? ⟨rg, k, none⟩ = some (.pointer (some ⟨ro, 0, none⟩))) [] (by kernel_rfl) ?_
    have hkd : Kept S0 w3 w3.drew := (Kept.refl S0 w3).drew
    have HKD := Lib.hid hkd
    have hS : w3.drew.cell? ⟨bx, 1, none⟩ = some (.int .i64 (k : Int)) ∧ w3.drew.cell? ⟨bx, 2, none⟩ = some (.int .u32 (m : Int)) ∧ w3.drew.cell? ⟨bx, 18, none⟩ = some (.int .u8 x.x.t) ∧ w3.drew.cell? ⟨bx, 19, none⟩ = some (.int .u64 x.x.lo) ∧ w3.drew.cell? ⟨bx, 20, none⟩ = some (.int .u64 x.x.hi) ∧ w3.drew.cell? ⟨rb, 1, none⟩ = some (.slice (some ⟨rg, 0, none⟩) P.nt rc) ∧ w3.drew.cell? ⟨rg, k, none⟩ = some (.pointer (some ⟨ro, 0, none⟩)) := ⟨keep0 hkd hS3.1, keep0 hkd hS3.2.1, keep0 hkd hS3.2.2.1, keep0 hkd hS3.2.2.2.1, keep0 hkd hS3.2.2.2.2.1, keep0 hkd hS3.2.2.2.2.2.1, keep0 hkd hS3.2.2.2.2.2.2⟩
    clear hS3 hkd
    generalize w3.drew = w4 at *
    (first | (refine tkR 0 (v := ?_) rfl hS ⟨by rfl, ?_⟩ ?_; rotate_left; intro w h; (try dsimp only at h); first | (go_simp; done) | (go_simp; with_reducible rfl)) | refine skR 0 rfl (fun _ => hS) (by rfl) ?_); simp only [zq1, zq2, Act.put, zq4, zq5, zq6]
    (first | (refine tkR 1 (v := ?_) rfl hS ⟨by rfl, ?_⟩ ?_; rotate_left; intro w h; (try dsimp only at h); first | (go_simp; done) | (go_simp; with_reducible rfl)) | refine skR 1 rfl (fun _ => hS) (by rfl) ?_); simp only [zq1, zq2, zq3, Act.put, zq4, zq5, zq6]
    (first | (refine tkR 2 (v := ?_) rfl hS ⟨by rfl, ?_⟩ ?_; rotate_left; intro w h; (try dsimp only at h); first | (go_simp; done) | (go_simp; with_reducible rfl)) | refine skR 2 rfl (fun _ => hS) (by rfl) ?_); simp only [zq1, zq2, zq3, Act.put, zq4, zq5, zq6]
    (first | (refine tkR 3 (v := ?_) rfl hS ⟨by rfl, ?_⟩ ?_; rotate_left; intro w h; (try dsimp only at h); first | (go_simp; done) | (go_simp; with_reducible rfl)) | refine skR 3 rfl (fun _ => hS) (by rfl) ?_); simp only [zq1, zq2, zq3, Act.put, zq4, zq5, zq6]
    (first | (refine tkR 4 (v := ?_) rfl hS ⟨by rfl, ?_⟩ ?_; rotate_left; intro w h; (try dsimp only at h); first | (go_simp; done) | (go_simp; with_reducible rfl)) | refine skR 4 rfl (fun _ => hS) (by rfl) ?_); simp only [zq1, zq2, zq3, Act.put, zq4, zq5, zq6]
    (first | (refine tkR 5 (v := ?_) rfl hS ⟨by rfl, ?_⟩ ?_; rotate_left; intro w h; (try dsimp only at h); first | (go_simp; done) | (go_simp; with_reducible rfl)) | refine skR 5 rfl (fun _ => hS) (by rfl) ?_); simp only [zq1, zq2, zq3, Act.put, zq4, zq5, zq6]
    (first | (refine tkR 6 (v := ?_) rfl hS ⟨by rfl, ?_⟩ ?_; rotate_left; intro w h; (try dsimp only at h); first | (go_simp; done) | (go_simp; with_reducible rfl)) | refine skR 6 rfl (fun _ => hS) (by rfl) ?_); simp only [zq1, zq2, zq3, Act.put, zq4, zq5, zq6]
    (first | (refine tkR 7 (v := ?_) rfl hS ⟨by rfl, ?_⟩ ?_; rotate_left; intro w h; (try dsimp only at h); first | (go_simp; done) | (go_simp; with_reducible rfl)) | refine skR 7 rfl (fun _ => hS) (by rfl) ?_); simp only [zq1, zq2, zq3, Act.put, zq4, zq5, zq6]
    (first | (refine tkR 8 (v := ?_) rfl hS ⟨by rfl, ?_⟩ ?_; rotate_left; intro w h; (try dsimp only at h); first | (go_simp; done) | (go_simp; with_reducible rfl)) | refine skR 8 rfl (fun _ => hS) (by rfl) ?_); simp only [zq1, zq2, zq3, Act.put, zq4, zq5, zq6]
    (first | (refine tkR 9 (v := ?_) rfl hS ⟨by rfl, ?_⟩ ?_; rotate_left; intro w h; (try dsimp only at h); first | (go_simp; done) | (go_simp; with_reducible rfl)) | refine skR 9 rfl (fun _ => hS) (by rfl) ?_); simp only [zq1, zq2, zq3, Act.put, zq4, zq5, zq6]
    (first | (refine tkR 10 (v := ?_) rfl hS ⟨by rfl, ?_⟩ ?_; rotate_left; intro w h; (try dsimp only at h); first | (go_simp; done) | (go_simp; with_reducible rfl)) | refine skR 10 rfl (fun _ => hS) (by rfl) ?_); simp only [zq1, zq2, zq3, Act.put, zq4, zq5, zq6]
    (first | (refine tkR 11 (v := ?_) rfl hS ⟨by rfl, ?_⟩ ?_; rotate_left; intro w h; (try dsimp only at h); first | (go_simp; done) | (go_simp; with_reducible rfl)) | refine skR 11 rfl (fun _ => hS) (by rfl) ?_); simp only [zq1, zq2, zq3, Act.put, zq4, zq5, zq6]
    (first | (refine tkR 12 (v := ?_) rfl hS ⟨by rfl, ?_⟩ ?_; rotate_left; intro w h; (try dsimp only at h); first | (go_simp; done) | (go_simp; with_reducible rfl)) | refine skR 12 rfl (fun _ => hS) (by rfl) ?_); simp only [zq1, zq2, zq3, Act.put, zq4, zq5, zq6]
    refine wpAnyR_one 13 rfl (by kernel_rfl) (fun K hK => ?_)
    go_simp
    go_at_call 115
    refine (r_tgrow (m % 50) x.x (by omega) HX.out.v (HR3.out.kept0 HKD.out) (Nat.le_trans HW3.out HKD.out.size) HKL.out HG1.out).mono ?_
    rintro e w5 ⟨rfl, ⟨lab3, u3, hr5, m5⟩, hk5⟩
    have hS5 : w5.cell? ⟨bx, 1, none⟩ = some (.int .i64 (k : Int)) ∧ w5.cell? ⟨bx, 2, none⟩ = some (.int .u32 (m : Int)) ∧ w5.cell? ⟨bx, 18, none⟩ = some (.int .u8 x.x.t) ∧ w5.cell? ⟨bx, 19, none⟩ = some (.int .u64 x.x.lo) ∧ w5.cell? ⟨bx, 20, none⟩ = some (.int .u64 x.x.hi) ∧ w5.cell? ⟨rb, 1, none⟩ = some (.slice (some ⟨rg, 0, none⟩) P.nt rc) ∧ w5.cell? ⟨rg, k, none⟩ = some (.pointer (some ⟨ro, 0, none⟩)) := by
      obtain ⟨s1, s2, s3, s4, s5, s6, s7⟩ := hS
      have kk : ∀ {b j : Nat} {y : Value}, b < w1.heap.size → (lg b = 0 ∨ lg b = 2) → w4.cell? ⟨b, j, none⟩ = some y → w5.cell? ⟨b, j, none⟩ = some y := fun {b} {j} {y} hb hl hc => (hk5.cell (World.block_lt_of_cell? _ _ hc) (fun e => by have := HLB3.out b hb; have e' : lab2 b = 4 * k + 4 := e; omega)).trans hc
      exact ⟨kk HZ.out.1 (.inl HLB.out) s1, kk HZ.out.1 (.inl HLB.out) s2, kk HZ.out.1 (.inl HLB.out) s3, kk HZ.out.1 (.inl HLB.out) s4, kk HZ.out.1 (.inl HLB.out) s5, kk HZ.out.2.1 (.inr HBL.out) s6, kk HZ.out.2.2 (.inr HRL.out) s7⟩
    have HFF := Lib.hid (show BDone w0.heap.size lab w w5 sb rb (tgrowP P k (m % 50) x.x) (tgrowP P k (m % 50) x.x) from ⟨lab3, v2, u3, (HS3.out.kept0 HKD.out).move m5 (fun _ _ x => x), hr5, Mv.three HM1.out (⟨HM3.out.k.then0 HKD.out, HM3.out.l⟩ : Mv lg lab2 (fun b => lg b % 2 = 1) w1 w4) m5⟩)
    refine hK.out _ _ (fun _ => hS5) ?_
    clear hK K hS hr5 m5 hk5
    (first | (refine tkR 14 (v := ?_) rfl hS5 ⟨by rfl, ?_⟩ ?_; rotate_left; intro w h; (try dsimp only at h); first | (go_simp; done) | (go_simp; with_reducible rfl)) | refine skR 14 rfl (fun _ => hS5) (by rfl) ?_); simp only [zq1, zq2, zq3, Act.put, zq4, zq5, zq6]
    (first | (refine tkR 15 (v := ?_) rfl hS5 ⟨by rfl, ?_⟩ ?_; rotate_left; intro w h; (try dsimp only at h); first | (go_simp; done) | (go_simp; with_reducible rfl)) | refine skR 15 rfl (fun _ => hS5) (by rfl) ?_); simp only [zq1, zq2, zq3, Act.put, zq4, zq5, zq6]
    (first | (refine tkR 16 (v := ?_) rfl hS5 ⟨by rfl, ?_⟩ ?_; rotate_left; intro w h; (try dsimp only at h); first | (go_simp; done) | (go_simp; with_reducible rfl)) | refine skR 16 rfl (fun _ => hS5) (by rfl) ?_); simp only [zq1, zq2, zq3, Act.put, zq4, zq5, zq6]
    (first | (refine tkR 17 (v := ?_) rfl hS5 ⟨by rfl, ?_⟩ ?_; rotate_left; intro w h; (try dsimp only at h); first | (go_simp; done) | (go_simp; with_reducible rfl)) | refine skR 17 rfl (fun _ => hS5) (by rfl) ?_); simp only [zq1, zq2, zq3, Act.put, zq4, zq5, zq6]
    (first | (refine tkR 18 (v := ?_) rfl hS5 ⟨by rfl, ?_⟩ ?_; rotate_left; intro w h; (try dsimp only at h); first | (go_simp; done) | (go_simp; with_reducible rfl)) | refine skR 18 rfl (fun _ => hS5) (by rfl) ?_); simp only [zq1, zq2, zq3, Act.put, zq4, zq5, zq6]
    clear hS5
    refine wpAnyR_done (by kernel_rfl) ?_ _
    go_wp2_with fail
    go_ret
    exact ⟨rfl, by rw [← HMM.out]; exact HFF.out⟩
end
end Go.Proofs.YtlnkdnmeikpckaaGreat
namespace Go.Proofs.YtlnkdnmeikpckaaGreat
open Go.RowKit
set_option maxRecDepth 100000
section
variable {w0 w : World} {sb rb : Nat} {lab : Nat → Nat} {P : PSt} {v u : SV}
set_option maxRecDepth 100000 in
set_option maxHeartbeats 6400000 in
theorem change_12 (x : ActP) (hx : ActOk w0 x) (hs : SAt w0.heap.size lab w sb P v) (hr : RAt w0.heap.size lab w rb P u) (hb : Bas w0 lab w) (hP : P.Le 200) :
    Calls Tryz.prog 77 #[.pointer (some ⟨sb, 0, none⟩), .pointer (some ⟨rb, 0, none⟩), .agg (x.cells 12)] w fun e w' => e = .returned (.bool true) ∧ BDone w0.heap.size lab w w' sb rb (changeP P 12 x) (changeP P 12 x) := by
  have hka : Kept S0 w (w.alloc (.cells (x.cells 12) 79)) := (Kept.refl S0 w).alloc _
  have HBX := Lib.hid (Blk.new w 79 (x.cells 12))
  have HS := Lib.hid (hs.fresh hka)
  have HR := Lib.hid (hr.fresh hka)
  have HB := Lib.hid (hb.fresh hka)
  have HM := Lib.hid (lab0_mv (lab := lab) hka S0)
  have HX := Lib.hid hx
  have HL := Lib.hid (lab0_new (lab := lab) (Nat.le_refl w.heap.size))
  clear hx hs hr hb hka
  have c0 : (w.alloc (.cells (x.cells 12) 79)).cell? ⟨w.heap.size, 0, none⟩ = some (.int .i64 12) := HBX.out.cell 0
  have c1 : (w.alloc (.cells (x.cells 12) 79)).cell? ⟨w.heap.size, 1, none⟩ = some (.int .i64 x.a) := HBX.out.cell 1
  have c2 : (w.alloc (.cells (x.cells 12) 79)).cell? ⟨w.heap.size, 2, none⟩ = some (.int .u32 x.n) := HBX.out.cell 2
  have c18 : (w.alloc (.cells (x.cells 12) 79)).cell? ⟨w.heap.size, 18, none⟩ = some (.int .u8 x.x.t) := HBX.out.cell 18
  have c19 : (w.alloc (.cells (x.cells 12) 79)).cell? ⟨w.heap.size, 19, none⟩ = some (.int .u64 x.x.lo) := HBX.out.cell 19
  have c20 : (w.alloc (.cells (x.cells 12) 79)).cell? ⟨w.heap.size, 20, none⟩ = some (.int .u64 x.x.hi) := HBX.out.cell 20
  have hn : P.nm ≤ 65536 := by have := hP.m; omega
  cases hi : isIn x.a P.nm with
  | false =>
    have hg := getmem_out x.a HS.out.ls.obj HS.out.ls.m hn (isIn_not hi)
    obtain ⟨rA, rc, hrl, _, _, _⟩ := HR.out.ls.m.out
    have r1 : (w.alloc (.cells (x.cells 12) 79)).cell? ⟨rb, 2, none⟩ = some (.slice rA P.nm rc) := by rw [← hrl]; exact HR.out.ls.obj.cell 2
    rw [show changeP P 12 x = P from by simp [changeP, hi]]
    have HI := Lib.hid hi
    clear hi hrl
    go_enter Tryz.func77, Tryz.ntmps77
    go_wp2_with fail
    refine hg.mono ?_
    clear hg
    rintro e w2 ⟨rfl, rfl⟩
    go_wp2_with fail
    generalize w.heap.size = bx at *
    generalize hlg : lab0 lab w = lg at *
    clear hlg
    refine wp_region_R (fun w' => w'.cell? ⟨bx, 1, none⟩ = some (.int .i64 x.a) ∧ w'.cell? ⟨rb, 2, none⟩ = some (.slice rA P.nm rc)) [] (by kernel_rfl) ?_
    have hS : (w.alloc (.cells (x.cells 12) 79)).drew.cell? ⟨bx, 1, none⟩ = some (.int .i64 x.a) ∧ (w.alloc (.cells (x.cells 12) 79)).drew.cell? ⟨rb, 2, none⟩ = some (.slice rA P.nm rc) := ⟨c1, r1⟩
    have HF := Lib.hid (show BDone w0.heap.size lab w (w.alloc (.cells (x.cells 12) 79)).drew sb rb P P from ⟨lg, v, u, HS.out.kept0 ((Kept.refl S0 _).drew), HR.out.kept0 ((Kept.refl S0 _).drew), HM.out.k.drew.of0 _, HM.out.l⟩)
    clear c0 c1 c2 c18 c19 c20 r1 HS HR HB HM HBX
    generalize (w.alloc (.cells (x.cells 12) 79)).drew = w1 at *
    (first | (refine tkR 0 (v := ?_) rfl hS ⟨by rfl, ?_⟩ ?_; rotate_left; intro w h; (try dsimp only at h); first | (go_simp; done) | (go_simp; with_reducible rfl)) | refine skR 0 rfl (fun _ => hS) (by rfl) ?_); simp only [zq1, zq2, Act.put, zq4, zq5, zq6]
    (first | (refine tkR 1 (v := ?_) rfl hS ⟨by rfl, ?_⟩ ?_; rotate_left; intro w h; (try dsimp only at h); first | (go_simp; done) | (go_simp; with_reducible rfl)) | refine skR 1 rfl (fun _ => hS) (by rfl) ?_); simp only [zq1, zq2, zq3, Act.put, zq4, zq5, zq6]
    (first | (refine tkR 2 (v := ?_) rfl hS ⟨by rfl, ?_⟩ ?_; rotate_left; intro w h; (try dsimp only at h); first | (go_simp; done) | (go_simp; with_reducible rfl)) | refine skR 2 rfl (fun _ => hS) (by rfl) ?_); simp only [zq1, zq2, zq3, Act.put, zq4, zq5, zq6]
    (first | (refine tkR 3 (v := ?_) rfl hS ⟨by rfl, ?_⟩ ?_; rotate_left; intro w h; (try dsimp only at h); first | (go_simp; done) | (go_simp; with_reducible rfl)) | refine skR 3 rfl (fun _ => hS) (by rfl) ?_); simp only [zq1, zq2, zq3, Act.put, zq4, zq5, zq6]
    (first | (refine tkR 4 (v := ?_) rfl hS ⟨by rfl, ?_⟩ ?_; rotate_left; intro w h; (try dsimp only at h); first | (go_simp; done) | (go_simp; with_reducible rfl)) | refine skR 4 rfl (fun _ => hS) (by rfl) ?_); simp only [zq1, zq2, zq3, Act.put, zq4, zq5, zq6]
    (first | (refine tkR 5 (v := ?_) rfl hS ⟨by rfl, ?_⟩ ?_; rotate_left; intro w h; (try dsimp only at h); first | (go_simp; done) | (go_simp; with_reducible rfl)) | refine skR 5 rfl (fun _ => hS) (by rfl) ?_); simp only [zq1, zq2, zq3, Act.put, zq4, zq5, zq6]
    (first | (refine tkR 6 (v := ?_) rfl hS ⟨by rfl, ?_⟩ ?_; rotate_left; intro w h; (try dsimp only at h); first | (go_simp; done) | (go_simp; with_reducible rfl)) | refine skR 6 rfl (fun _ => hS) (by rfl) ?_); simp only [zq1, zq2, zq3, Act.put, zq4, zq5, zq6]
    refine wpAnyR_one 7 rfl (by kernel_rfl) (fun K hK => ?_)
    go_simp
    go_at_call 27
    refine (there_any x.a (P.nm : Int) w1).mono ?_
    rintro e w2 ⟨rfl, rfl⟩
    rw [inA_isIn, HI.out]
    refine hK.out _ _ (fun _ => hS) ?_
    clear hK K
    (first | (refine tkR 8 (v := ?_) rfl hS ⟨by rfl, ?_⟩ ?_; rotate_left; intro w h; (try dsimp only at h); first | (go_simp; done) | (go_simp; with_reducible rfl)) | refine skR 8 rfl (fun _ => hS) (by rfl) ?_); simp only [zq1, zq2, zq3, Act.put, zq4, zq5, zq6]
    refine wpAnyR_done (by kernel_rfl) ?_ _
    go_wp2_with fail
    go_ret
    exact ⟨rfl, HF.out⟩
  | true =>
    obtain ⟨k, hxa, hk⟩ := isIn_nat hi
    obtain ⟨tb, bb, mn, fm, hF, hta, _, _, _, _⟩ := (HS.out.mm k hk).ex
    obtain ⟨ro, mr, lr, fr, hG, hra, _, _⟩ := (HR.out.mm k hk).ex
    have hg := getmem_in k _ HS.out.ls.obj HS.out.ls.m hn hk hF
    obtain ⟨rg, rc, hrl, _, _⟩ := HR.out.ls.m.is_some (by omega)
    have hrt := HR.out.ls.m
    rw [hrl] at hrt
    have r1 : (w.alloc (.cells (x.cells 12) 79)).cell? ⟨rb, 2, none⟩ = some (.slice (some ⟨rg, 0, none⟩) P.nm rc) := by rw [← hrl]; exact HR.out.ls.obj.cell 2
    have r2 : (w.alloc (.cells (x.cells 12) 79)).cell? ⟨rg, k, none⟩ = some (.pointer (some ⟨ro, 0, none⟩)) := by rw [← hG]; exact hrt.rowcell (by omega)
    rw [show changeP P 12 x = mgrowP P k (x.n.toNat % 2) from by have hi' : isIn (k : Int) P.nm = true := hxa ▸ hi; simp [changeP, hxa, hi']]
    have hki : (k : Int) < (P.nm : Int) := by omega
    have HI := Lib.hid (show inA (k : Int) (P.nm : Int) = true by rw [inA_isIn, ← hxa]; exact hi)
    have HF1 := Lib.hid hF
    have HRV := Lib.hid hrl
    have HG1 := Lib.hid hG
    have HKL := Lib.hid hk
    rw [hxa] at c1
    clear hi hrl hrt hF hG hta hra hn
    go_enter Tryz.func77, Tryz.ntmps77
    go_wp2_with fail
    refine hg.mono ?_
    clear hg
    rintro e w2 ⟨rfl, rfl⟩
    go_wp2_with fail
    generalize w.heap.size = bx at *
    generalize hlg : lab0 lab w = lg at *
    clear hlg
    refine wp_region_R (fun w' => w'.cell? ⟨bx, 1, none⟩ = some (.int .i64 (k : Int)) ∧ w'.cell? ⟨rb, 2, none⟩ = some (.slice (some ⟨rg, 0, none⟩) P.nm rc)) [] (by kernel_rfl) ?_
    have hS : (w.alloc (.cells (x.cells 12) 79)).drew.cell? ⟨bx, 1, none⟩ = some (.int .i64 (k : Int)) ∧ (w.alloc (.cells (x.cells 12) 79)).drew.cell? ⟨rb, 2, none⟩ = some (.slice (some ⟨rg, 0, none⟩) P.nm rc) := ⟨c1, r1⟩
    have HK1 := Lib.hid ((Kept.refl S0 (w.alloc (.cells (x.cells 12) 79))).drew)
    generalize hw1 : (w.alloc (.cells (x.cells 12) 79)).drew = w1 at *
    (first | (refine tkR 0 (v := ?_) rfl hS ⟨by rfl, ?_⟩ ?_; rotate_left; intro w h; (try dsimp only at h); first | (go_simp; done) | (go_simp; with_reducible rfl)) | refine skR 0 rfl (fun _ => hS) (by rfl) ?_); simp only [zq1, zq2, Act.put, zq4, zq5, zq6]
    (first | (refine tkR 1 (v := ?_) rfl hS ⟨by rfl, ?_⟩ ?_; rotate_left; intro w h; (try dsimp only at h); first | (go_simp; done) | (go_simp; with_reducible rfl)) | refine skR 1 rfl (fun _ => hS) (by rfl) ?_); simp only [zq1, zq2, zq3, Act.put, zq4, zq5, zq6]
    (first | (refine tkR 2 (v := ?_) rfl hS ⟨by rfl, ?_⟩ ?_; rotate_left; intro w h; (try dsimp only at h); first | (go_simp; done) | (go_simp; with_reducible rfl)) | refine skR 2 rfl (fun _ => hS) (by rfl) ?_); simp only [zq1, zq2, zq3, Act.put, zq4, zq5, zq6]
    (first | (refine tkR 3 (v := ?_) rfl hS ⟨by rfl, ?_⟩ ?_; rotate_left; intro w h; (try dsimp only at h); first | (go_simp; done) | (go_simp; with_reducible rfl)) | refine skR 3 rfl (fun _ => hS) (by rfl) ?_); simp only [zq1, zq2, zq3, Act.put, zq4, zq5, zq6]
    (first | (refine tkR 4 (v := ?_) rfl hS ⟨by rfl, ?_⟩ ?_; rotate_left; intro w h; (try dsimp only at h); first | (go_simp; done) | (go_simp; with_reducible rfl)) | refine skR 4 rfl (fun _ => hS) (by rfl) ?_); simp only [zq1, zq2, zq3, Act.put, zq4, zq5, zq6]
    (first | (refine tkR 5 (v := ?_) rfl hS ⟨by rfl, ?_⟩ ?_; rotate_left; intro w h; (try dsimp only at h); first | (go_simp; done) | (go_simp; with_reducible rfl)) | refine skR 5 rfl (fun _ => hS) (by rfl) ?_); simp only [zq1, zq2, zq3, Act.put, zq4, zq5, zq6]
    (first | (refine tkR 6 (v := ?_) rfl hS ⟨by rfl, ?_⟩ ?_; rotate_left; intro w h; (try dsimp only at h); first | (go_simp; done) | (go_simp; with_reducible rfl)) | refine skR 6 rfl (fun _ => hS) (by rfl) ?_); simp only [zq1, zq2, zq3, Act.put, zq4, zq5, zq6]
    refine wpAnyR_one 7 rfl (by kernel_rfl) (fun K hK => ?_)
    go_simp
    go_at_call 27
    refine (there_any (k : Int) (P.nm : Int) w1).mono ?_
    rintro e w2 ⟨rfl, rfl⟩
    rw [HI.out]
    refine hK.out _ _ (fun _ => hS) ?_
    clear hK K
    (first | (refine tkR 8 (v := ?_) rfl hS ⟨by rfl, ?_⟩ ?_; rotate_left; intro w h; (try dsimp only at h); first | (go_simp; done) | (go_simp; with_reducible rfl)) | refine skR 8 rfl (fun _ => hS) (by rfl) ?_); simp only [zq1, zq2, zq3, Act.put, zq4, zq5, zq6]
    refine wpAnyR_done (by kernel_rfl) ?_ _
    have HS1 := Lib.hid (HS.out.kept0 HK1.out)
    have HR1 := Lib.hid (HR.out.kept0 HK1.out)
    have HB1 := Lib.hid (HB.out.move (⟨HK1.out, fun _ _ => rfl⟩ : Mv lg lg S0 _ _) (fun _ e => e.elim))
    have HM1 := Lib.hid (show Mv lab lg S0 w w1 from ⟨HM.out.k.then0 HK1.out, HM.out.l⟩)
    have HBX1 := Lib.hid (HK1.out.blk HBX.out (fun x => x))
    have d0 : w1.cell? ⟨bx, 0, none⟩ = some (.int .i64 12) := HBX1.out.cell 0
    have d1 : w1.cell? ⟨bx, 1, none⟩ = some (.int .i64 (k : Int)) := keep0 HK1.out c1
    have d2 : w1.cell? ⟨bx, 2, none⟩ = some (.int .u32 x.n) := HBX1.out.cell 2
    have q1 := keep0 HK1.out r1
    have q2 := keep0 HK1.out r2
    obtain ⟨m, hmm⟩ : ∃ m, m = x.n.toNat := ⟨_, rfl⟩
    have hm : x.n = (m : Int) := by have := HX.out.n1; omega
    rw [hm] at d2
    have hmx : m ≤ 4294967295 := by have := HX.out.n2; omega
    have HMM := Lib.hid hmm
    have HLB := Lib.hid (show lg bx = 0 from HL.out)
    have HLR := Lib.hid (show ∀ g, u.ml.ownBlock = some g → lg g = 2 from HR1.out.ls.lm)
    have HRL := Lib.hid (show lg rg = 2 from HR1.out.ls.lm rg (by rw [HRV.out]; rfl))
    have HBL := Lib.hid HR1.out.ls.l
    have HMX := Lib.hid hmx
    clear hm hmm hw1 c0 c1 c2 c18 c19 c20 r1 r2 HS HR HB HM HBX HK1 hS hmx
    have d18 : w1.cell? ⟨bx, 18, none⟩ = some (.int .u8 x.x.t) := HBX1.out.cell 18
    have d19 : w1.cell? ⟨bx, 19, none⟩ = some (.int .u64 x.x.lo) := HBX1.out.cell 19
    have d20 : w1.cell? ⟨bx, 20, none⟩ = some (.int .u64 x.x.hi) := HBX1.out.cell 20
    have hrm : Int.tmod (m : Int) 2 = ((m % 2 : Nat) : Int) := rfl
    go_wp2_with fail
    refine (s_mgrow (m % 2) (by omega) HS1.out HB1.out.size HKL.out HF1.out).mono ?_
    rintro e w3 ⟨rfl, lab2, v2, hs3, m3⟩
    have hb3 : ∀ b, lg b = 0 ∨ lg b = 2 → ¬ (lg b % 2 = 1) := fun b h e => by omega
    have hS3 : w3.cell? ⟨bx, 1, none⟩ = some (.int .i64 (k : Int)) ∧ w3.cell? ⟨bx, 2, none⟩ = some (.int .u32 (m : Int)) ∧ w3.cell? ⟨bx, 18, none⟩ = some (.int .u8 x.x.t) ∧ w3.cell? ⟨bx, 19, none⟩ = some (.int .u64 x.x.lo) ∧ w3.cell? ⟨bx, 20, none⟩ = some (.int .u64 x.x.hi) ∧ w3.cell? ⟨rb, 2, none⟩ = some (.slice (some ⟨rg, 0, none⟩) P.nm rc) ∧ w3.cell? ⟨rg, k, none⟩ = some (.pointer (some ⟨ro, 0, none⟩)) := by
      have kk : ∀ {b j : Nat} {y : Value}, (lg b = 0 ∨ lg b = 2) → w1.cell? ⟨b, j, none⟩ = some y → w3.cell? ⟨b, j, none⟩ = some y := fun hl hc => (m3.k.cell (World.block_lt_of_cell? _ _ hc) (hb3 _ hl)).trans hc
      exact ⟨kk (.inl HLB.out) d1, kk (.inl HLB.out) d2, kk (.inl HLB.out) d18, kk (.inl HLB.out) d19, kk (.inl HLB.out) d20, kk (.inr HBL.out) q1, kk (.inr HRL.out) q2⟩
    have HZ := Lib.hid (show bx < w1.heap.size ∧ rb < w1.heap.size ∧ rg < w1.heap.size from ⟨World.block_lt_of_cell? _ _ d1, World.block_lt_of_cell? _ _ q1, World.block_lt_of_cell? _ _ q2⟩)
    have HS3 := Lib.hid hs3
    have HR3 := Lib.hid (HR1.out.move m3 (fun _ _ x => x))
    have HM3 := Lib.hid m3
    have HLB3 := Lib.hid (show ∀ b, b < w1.heap.size → lab2 b = lg b from m3.l)
    have HW3 := Lib.hid (show w0.heap.size ≤ w3.heap.size from Nat.le_trans HB1.out.size m3.k.size)
    clear d0 d1 d2 d18 d19 d20 q1 q2 hs3 m3 hb3
    go_wp2_with fail
    refine wp_region_R (fun w' => w'.cell? ⟨bx, 1, none⟩ = some (.int .i64 (k : Int)) ∧ w'.cell? ⟨bx, 2, none⟩ = some (.int .u32 (m : Int)) ∧ w'.cell? ⟨bx, 18, none⟩ = some (.int .u8 x.x.t) ∧ w'.cell? ⟨bx, 19, none⟩ = some (.int .u64 x.x.lo) ∧ w'.cell? ⟨bx, 20, none⟩ = some (.int .u64 x.x.hi) ∧ w'.cell? ⟨rb, 2, none⟩ = some (.slice (some ⟨rg, 0, none⟩) P.nm rc) ∧ w'.cell? ⟨rg, k, none⟩ = some (.pointer (some ⟨ro, 0, none⟩))) [] (by kernel_rfl) ?_
    have hkd : Kept S0 w3 w3.drew := (Kept.refl S0 w3).drew
    have HKD := Lib.hid hkd
    have hS : w3.drew.cell? ⟨bx, 1, none⟩ = some (.int .i64 (k : Int)) ∧ w3.drew.cell? ⟨bx, 2, none⟩ = some (.int .u32 (m : Int)) ∧ w3.drew.cell? ⟨bx, 18, none⟩ = some (.int .u8 x.x.t) ∧ w3.drew.cell? ⟨bx, 19, none⟩ = some (.int .u64 x.x.lo) ∧ w3.drew.cell? ⟨bx, 20, none⟩ = some (.int .u64 x.x.hi) ∧ w3.drew.cell? ⟨rb, 2, none⟩ = some (.slice (some ⟨rg, 0, none⟩) P.nm rc) ∧ w3.drew.cell? ⟨rg, k, none⟩ = some (.pointer (some ⟨ro, 0, none⟩)) := ⟨keep0 hkd hS3.1, keep0 hkd hS3.2.1, keep0 hkd hS3.2.2.1, keep0 hkd hS3.2.2.2.1, keep0 hkd hS3.2.2.2.2.1, keep0 hkd hS3.2.2.2.2.2.1, keep0 hkd hS3.2.2.2.2.2.2⟩
    clear hS3 hkd
    generalize w3.drew = w4 at *
    (first | (refine tkR 0 (v := ?_) rfl hS ⟨by rfl, ?_⟩ ?_; rotate_left; intro w h; (try dsimp only at h); first | (go_simp; done) | (go_simp; with_reducible rfl)) | refine skR 0 rfl (fun _ => hS) (by rfl) ?_); simp only [zq1, zq2, Act.put, zq4, zq5, zq6]
    (first | (refine tkR 1 (v := ?_) rfl hS ⟨by rfl, ?_⟩ ?_; rotate_left; intro w h; (try dsimp only at h); first | (go_simp; done) | (go_simp; with_reducible rfl)) | refine skR 1 rfl (fun _ => hS) (by rfl) ?_); simp only [zq1, zq2, zq3, Act.put, zq4, zq5, zq6]
    (first | (refine tkR 2 (v := ?_) rfl hS ⟨by rfl, ?_⟩ ?_; rotate_left; intro w h; (try dsimp only at h); first | (go_simp; done) | (go_simp; with_reducible rfl)) | refine skR 2 rfl (fun _ => hS) (by rfl) ?_); simp only [zq1, zq2, zq3, Act.put, zq4, zq5, zq6]
    (first | (refine tkR 3 (v := ?_) rfl hS ⟨by rfl, ?_⟩ ?_; rotate_left; intro w h; (try dsimp only at h); first | (go_simp; done) | (go_simp; with_reducible rfl)) | refine skR 3 rfl (fun _ => hS) (by rfl) ?_); simp only [zq1, zq2, zq3, Act.put, zq4, zq5, zq6]
    (first | (refine tkR 4 (v := ?_) rfl hS ⟨by rfl, ?_⟩ ?_; rotate_left; intro w h; (try dsimp only at h); first | (go_simp; done) | (go_simp; with_reducible rfl)) | refine skR 4 rfl (fun _ => hS) (by rfl) ?_); simp only [zq1, zq2, zq3, Act.put, zq4, zq5, zq6]
    (first | (refine tkR 5 (v := ?_) rfl hS ⟨by rfl, ?_⟩ ?_; rotate_left; intro w h; (try dsimp only at h); first | (go_simp; done) | (go_simp; with_reducible rfl)) | refine skR 5 rfl (fun _ => hS) (by rfl) ?_); simp only [zq1, zq2, zq3, Act.put, zq4, zq5, zq6]
    (first | (refine tkR 6 (v := ?_) rfl hS ⟨by rfl, ?_⟩ ?_; rotate_left; intro w h; (try dsimp only at h); first | (go_simp; done) | (go_simp; with_reducible rfl)) | refine skR 6 rfl (fun _ => hS) (by rfl) ?_); simp only [zq1, zq2, zq3, Act.put, zq4, zq5, zq6]
    (first | (refine tkR 7 (v := ?_) rfl hS ⟨by rfl, ?_⟩ ?_; rotate_left; intro w h; (try dsimp only at h); first | (go_simp; done) | (go_simp; with_reducible rfl)) | refine skR 7 rfl (fun _ => hS) (by rfl) ?_); simp only [zq1, zq2, zq3, Act.put, zq4, zq5, zq6]
    (first | (refine tkR 8 (v := ?_) rfl hS ⟨by rfl, ?_⟩ ?_; rotate_left; intro w h; (try dsimp only at h); first | (go_simp; done) | (go_simp; with_reducible rfl)) | refine skR 8 rfl (fun _ => hS) (by rfl) ?_); simp only [zq1, zq2, zq3, Act.put, zq4, zq5, zq6]
    (first | (refine tkR 9 (v := ?_) rfl hS ⟨by rfl, ?_⟩ ?_; rotate_left; intro w h; (try dsimp only at h); first | (go_simp; done) | (go_simp; with_reducible rfl)) | refine skR 9 rfl (fun _ => hS) (by rfl) ?_); simp only [zq1, zq2, zq3, Act.put, zq4, zq5, zq6]
    (first | (refine tkR 10 (v := ?_) rfl hS ⟨by rfl, ?_⟩ ?_; rotate_left; intro w h; (try dsimp only at h); first | (go_simp; done) | (go_simp; with_reducible rfl)) | refine skR 10 rfl (fun _ => hS) (by rfl) ?_); simp only [zq1, zq2, zq3, Act.put, zq4, zq5, zq6]
    (first | (refine tkR 11 (v := ?_) rfl hS ⟨by rfl, ?_⟩ ?_; rotate_left; intro w h; (try dsimp only at h); first | (go_simp; done) | (go_simp; with_reducible rfl)) | refine skR 11 rfl (fun _ => hS) (by rfl) ?_); simp only [zq1, zq2, zq3, Act.put, zq4, zq5, zq6]
    (first | (refine tkR 12 (v := ?_) rfl hS ⟨by rfl, ?_⟩ ?_; rotate_left; intro w h; (try dsimp only at h); first | (go_simp; done) | (go_simp; with_reducible rfl)) | refine skR 12 rfl (fun _ => hS) (by rfl) ?_); simp only [zq1, zq2, zq3, Act.put, zq4, zq5, zq6]
    (first | (refine tkR 13 (v := ?_) rfl hS ⟨by rfl, ?_⟩ ?_; rotate_left; intro w h; (try dsimp only at h); first | (go_simp; done) | (go_simp; with_reducible rfl)) | refine skR 13 rfl (fun _ => hS) (by rfl) ?_); simp only [zq1, zq2, zq3, Act.put, zq4, zq5, zq6]
    (first | (refine tkR 14 (v := ?_) rfl hS ⟨by rfl, ?_⟩ ?_; rotate_left; intro w h; (try dsimp only at h); first | (go_simp; done) | (go_simp; with_reducible rfl)) | refine skR 14 rfl (fun _ => hS) (by rfl) ?_); simp only [zq1, zq2, zq3, Act.put, zq4, zq5, zq6]
    (first | (refine tkR 15 (v := ?_) rfl hS ⟨by rfl, ?_⟩ ?_; rotate_left; intro w h; (try dsimp only at h); first | (go_simp; done) | (go_simp; with_reducible rfl)) | refine skR 15 rfl (fun _ => hS) (by rfl) ?_); simp only [zq1, zq2, zq3, Act.put, zq4, zq5, zq6]
    (first | (refine tkR 16 (v := ?_) rfl hS ⟨by rfl, ?_⟩ ?_; rotate_left; intro w h; (try dsimp only at h); first | (go_simp; done) | (go_simp; with_reducible rfl)) | refine skR 16 rfl (fun _ => hS) (by rfl) ?_); simp only [zq1, zq2, zq3, Act.put, zq4, zq5, zq6]
    (first | (refine tkR 17 (v := ?_) rfl hS ⟨by rfl, ?_⟩ ?_; rotate_left; intro w h; (try dsimp only at h); first | (go_simp; done) | (go_simp; with_reducible rfl)) | refine skR 17 rfl (fun _ => hS) (by rfl) ?_); simp only [zq1, zq2, zq3, Act.put, zq4, zq5, zq6]
    (first | (refine tkR 18 (v := ?_) rfl hS ⟨by rfl, ?_⟩ ?_; rotate_left; intro w h; (try dsimp only at h); first | (go_simp; done) | (go_simp; with_reducible rfl)) | refine skR 18 rfl (fun _ => hS) (by rfl) ?_); simp only [zq1, zq2, zq3, Act.put, zq4, zq5, zq6]
    refine wpAnyR_one 19 rfl (by kernel_rfl) (fun K hK => ?_)
    go_simp
    go_at_call 117
    refine (r_mgrow (m % 2) (by omega) (HR3.out.kept0 HKD.out) (Nat.le_trans HW3.out HKD.out.size) HKL.out HG1.out).mono ?_
    rintro e w5 ⟨rfl, ⟨lab3, u3, hr5, m5⟩, hk5⟩
    have hS5 : w5.cell? ⟨bx, 1, none⟩ = some (.int .i64 (k : Int)) ∧ w5.cell? ⟨bx, 2, none⟩ = some (.int .u32 (m : Int)) ∧ w5.cell? ⟨bx, 18, none⟩ = some (.int .u8 x.x.t) ∧ w5.cell? ⟨bx, 19, none⟩ = some (.int .u64 x.x.lo) ∧ w5.cell? ⟨bx, 20, none⟩ = some (.int .u64 x.x.hi) ∧ w5.cell? ⟨rb, 2, none⟩ = some (.slice (some ⟨rg, 0, none⟩) P.nm rc) ∧ w5.cell? ⟨rg, k, none⟩ = some (.pointer (some ⟨ro, 0, none⟩)) := by
      obtain ⟨s1, s2, s3, s4, s5, s6, s7⟩ := hS
      have kk : ∀ {b j : Nat} {y : Value}, b < w1.heap.size → (lg b = 0 ∨ lg b = 2) → w4.cell? ⟨b, j, none⟩ = some y → w5.cell? ⟨b, j, none⟩ = some y := fun {b} {j} {y} hb hl hc => (hk5.cell (World.block_lt_of_cell? _ _ hc) (fun e => by have := HLB3.out b hb; have e' : lab2 b = 4 * k + 6 := e; omega)).trans hc
      exact ⟨kk HZ.out.1 (.inl HLB.out) s1, kk HZ.out.1 (.inl HLB.out) s2, kk HZ.out.1 (.inl HLB.out) s3, kk HZ.out.1 (.inl HLB.out) s4, kk HZ.out.1 (.inl HLB.out) s5, kk HZ.out.2.1 (.inr HBL.out) s6, kk HZ.out.2.2 (.inr HRL.out) s7⟩
    have HFF := Lib.hid (show BDone w0.heap.size lab w w5 sb rb (mgrowP P k (m % 2)) (mgrowP P k (m % 2)) from ⟨lab3, v2, u3, (HS3.out.kept0 HKD.out).move m5 (fun _ _ x => x), hr5, Mv.three HM1.out (⟨HM3.out.k.then0 HKD.out, HM3.out.l⟩ : Mv lg lab2 (fun b => lg b % 2 = 1) w1 w4) m5⟩)
    refine hK.out _ _ (fun _ => hS5) ?_
    clear hK K hS hr5 m5 hk5
    (first | (refine tkR 20 (v := ?_) rfl hS5 ⟨by rfl, ?_⟩ ?_; rotate_left; intro w h; (try dsimp only at h); first | (go_simp; done) | (go_simp; with_reducible rfl)) | refine skR 20 rfl (fun _ => hS5) (by rfl) ?_); simp only [zq1, zq2, zq3, Act.put, zq4, zq5, zq6]
    (first | (refine tkR 21 (v := ?_) rfl hS5 ⟨by rfl, ?_⟩ ?_; rotate_left; intro w h; (try dsimp only at h); first | (go_simp; done) | (go_simp; with_reducible rfl)) | refine skR 21 rfl (fun _ => hS5) (by rfl) ?_); simp only [zq1, zq2, zq3, Act.put, zq4, zq5, zq6]
    (first | (refine tkR 22 (v := ?_) rfl hS5 ⟨by rfl, ?_⟩ ?_; rotate_left; intro w h; (try dsimp only at h); first | (go_simp; done) | (go_simp; with_reducible rfl)) | refine skR 22 rfl (fun _ => hS5) (by rfl) ?_); simp only [zq1, zq2, zq3, Act.put, zq4, zq5, zq6]
    clear hS5
    refine wpAnyR_done (by kernel_rfl) ?_ _
    go_wp2_with fail
    go_ret
    exact ⟨rfl, by rw [← HMM.out]; exact HFF.out⟩
end
end Go.Proofs.YtlnkdnmeikpckaaGreat
namespace Go.Proofs.YtlnkdnmeikpckaaGreat
open Go.RowKit
set_option maxRecDepth 100000
section
variable {w0 w : World} {sb rb : Nat} {lab : Nat → Nat} {P Q : PSt} {v u : SV}
set_option maxRecDepth 100000 in
set_option maxHeartbeats 6400000 in
theorem change_no (x : ActP) (d : Int) (h7 : d ≠ 7) (h8 : d ≠ 8) (h9 : d ≠ 9) (h10 : d ≠ 10) (h11 : d ≠ 11) (h12 : d ≠ 12) (hs : SAt w0.heap.size lab w sb P v) (hr : RAt w0.heap.size lab w rb P u) :
    Calls Tryz.prog 77 #[.pointer (some ⟨sb, 0, none⟩), .pointer (some ⟨rb, 0, none⟩), .agg (x.cells d)] w fun e w' => e = .returned (.bool true) ∧ BDone w0.heap.size lab w w' sb rb P P := by
  have hka : Kept S0 w (w.alloc (.cells (x.cells d) 79)) := (Kept.refl S0 w).alloc _
  have HBX := Lib.hid (Blk.new w 79 (x.cells d))
  have HF := Lib.hid (show BDone w0.heap.size lab w (w.alloc (.cells (x.cells d) 79)) sb rb P P from ⟨lab, v, u, hs.kept0 hka, hr.kept0 hka, hka.of0 _, fun _ _ => rfl⟩)
  clear hs hr hka
  have c0 : (w.alloc (.cells (x.cells d) 79)).cell? ⟨w.heap.size, 0, none⟩ = some (.int .i64 d) := HBX.out.cell 0
  go_enter Tryz.func77, Tryz.ntmps77
  go_wp2_with fail
  go_ret
  exact ⟨rfl, HF.out⟩
theorem change_any (x : ActP) (d : Int) (hx : ActOk w0 x) (hs : SAt w0.heap.size lab w sb P v) (hr : RAt w0.heap.size lab w rb P u) (hb : Bas w0 lab w) (hP : P.Le 200) :
    Calls Tryz.prog 77 #[.pointer (some ⟨sb, 0, none⟩), .pointer (some ⟨rb, 0, none⟩), .agg (x.cells d)] w fun e w' => e = .returned (.bool true) ∧ BDone w0.heap.size lab w w' sb rb (changeP P d x) (changeP P d x) := by
  by_cases h7 : d = 7
  · subst h7; exact change_7 x hx hs hr hb hP
  by_cases h8 : d = 8
  · subst h8; exact change_8 x hx hs hr hb hP
  by_cases h9 : d = 9
  · subst h9; exact change_9 x hx hs hr hb hP
  by_cases h10 : d = 10
  · subst h10; exact change_10 x hx hs hr hb hP
  by_cases h11 : d = 11
  · subst h11; exact change_11 x hx hs hr hb hP
  by_cases h12 : d = 12
  · subst h12; exact change_12 x hx hs hr hb hP
  simp only [changeP, if_neg h7, if_neg h8, if_neg h9, if_neg h10, if_neg h11, if_neg h12]
  exact change_no x d h7 h8 h9 h10 h11 h12 hs hr
end
end Go.Proofs.YtlnkdnmeikpckaaGreat
namespace Go.Proofs.YtlnkdnmeikpckaaGreat
open Go.RowKit
set_option maxRecDepth 100000
def bothP (P : PSt) (d : Int) (x : ActP) : PSt := if d < 7 then (addP P d x).2.2 else changeP P d x
theorem BDone.pre {B sb rb : Nat} {lab : Nat → Nat} {w w1 w2 : World} {P Q : PSt} (hk : Kept S0 w w1) (h : BDone B lab w1 w2 sb rb P Q) : BDone B lab w w2 sb rb P Q := by
  obtain ⟨l2, v2, u2, h1, h2, h3⟩ := h
  exact ⟨l2, v2, u2, h1, h2, (⟨hk, fun _ _ => rfl⟩ : Mv lab lab S0 _ _).trans_ h3 (fun _ e => e.elim) (fun _ _ e => e)⟩
section
variable {w0 w : World} {sb rb : Nat} {lab : Nat → Nat} {P Q : PSt} {v u : SV}
set_option maxRecDepth 100000 in
set_option maxHeartbeats 6400000 in
theorem both_any (x : ActP) (d : Int) (hx : ActOk w0 x) (hs : SAt w0.heap.size lab w sb P v) (hr : RAt w0.heap.size lab w rb P u) (hb : Bas w0 lab w) (hP : P.Le 200) :
    Calls Tryz.prog 30 #[.pointer (some ⟨sb, 0, none⟩), .pointer (some ⟨rb, 0, none⟩), .agg (x.cells d)] w fun e w' => e = .returned (.bool true) ∧ BDone w0.heap.size lab w w' sb rb (bothP P d x) (bothP P d x) := by
  have hka : Kept S0 w (w.alloc (.cells (x.cells d) 79)) := (Kept.refl S0 w).alloc _
  have HBX := Lib.hid (Blk.new w 79 (x.cells d))
  have HS := Lib.hid (hs.kept0 hka)
  have HR := Lib.hid (hr.kept0 hka)
  have HB := Lib.hid (hb.move (⟨hka, fun _ _ => rfl⟩ : Mv lab lab S0 _ _) (fun _ e => e.elim))
  have HM := Lib.hid hka
  have HX := Lib.hid hx
  clear hx hs hr hb hka
  have c0 : (w.alloc (.cells (x.cells d) 79)).cell? ⟨w.heap.size, 0, none⟩ = some (.int .i64 d) := HBX.out.cell 0
  by_cases hd : d < 7
  · rw [show bothP P d x = (addP P d x).2.2 from if_pos hd]
    go_enter Tryz.func30, Tryz.ntmps30
    go_wp2_with (refine wpList_load_row rfl 79 _ rfl _ rfl 79 (x.cells d) (0, 0) _ HBX.out Tryz.underlying79 rfl (by kernel_rfl) ?_)
    refine (add_any x d HX.out HS.out HR.out HB.out hP hP).mono ?_
    rintro e w2 ⟨rfl, hbd⟩
    have HF := Lib.hid (BDone.pre HM.out hbd)
    clear hbd
    go_wp2_with fail
    go_ret
    exact ⟨ret_bool (by simp), HF.out⟩
  · rw [show bothP P d x = changeP P d x from if_neg hd]
    go_enter Tryz.func30, Tryz.ntmps30
    go_wp2_with (refine wpList_load_row rfl 79 _ rfl _ rfl 79 (x.cells d) (0, 0) _ HBX.out Tryz.underlying79 rfl (by kernel_rfl) ?_)
    refine (change_any x d HX.out HS.out HR.out HB.out hP).mono ?_
    rintro e w2 ⟨rfl, hbd⟩
    have HF := Lib.hid (BDone.pre HM.out hbd)
    clear hbd
    go_wp2_with fail
    go_ret
    exact ⟨rfl, HF.out⟩
end
end Go.Proofs.YtlnkdnmeikpckaaGreat
namespace Go.Proofs.YtlnkdnmeikpckaaGreat
open Go.RowKit
set_option maxRecDepth 100000
theorem PSt.Le.add {P : PSt} {k : Nat} (h : P.Le k) (d : Int) (x : ActP) : (addP P d x).2.2.Le (k + 1) := by
  have h' := h.mono (Nat.le_succ k)
  have hf := h.f
  have ht := h.t
  have hm := h.m
  have hg := h.g
  have he := h.e
  have hd := h.d
  have hi := h.i
  unfold addP addF addT addM addG addE addD addI
  repeat' split
  all_goals first | exact h' | (refine ⟨?_, ?_, ?_, ?_, ?_, ?_, ?_⟩ <;> simp only [PSt.pushF, PSt.pushT, PSt.pushM, PSt.pushG, PSt.pushE, PSt.pushD, PSt.pushI] <;> omega)
theorem PSt.Le.change {P : PSt} {k : Nat} (h : P.Le k) (d : Int) (x : ActP) : (changeP P d x).Le k := by
  have hf := h.f
  have ht := h.t
  have hm := h.m
  have hg := h.g
  have he := h.e
  have hd := h.d
  have hi := h.i
  unfold changeP setGP dropEP tsetP tgrowP mgrowP
  repeat' split
  all_goals first | exact h | (refine ⟨?_, ?_, ?_, ?_, ?_, ?_, ?_⟩ <;> (try simp only []) <;> omega)
theorem PSt.Le.both {P : PSt} {k : Nat} (h : P.Le k) (d : Int) (x : ActP) : (bothP P d x).Le (k + 1) := by
  unfold bothP
  split
  · exact h.add d x
  · exact (h.change d x).mono (Nat.le_succ k)
/-- A list of acts that came in. -/
structure ActL (w : World) (A : Option Addr) (n : Nat) (D : Nat → Int) (X : Nat → ActP) : Prop where
  el : 0 < n → ∃ b o, A = some ⟨b, o, none⟩ ∧ ∀ i, i < n → ∀ j, j < 32 → w.cell? ⟨b, o + i * 32 + j, none⟩ = ((X i).cells (D i))[j]?
  ok : ∀ i, i < n → ActOk w (X i)
theorem ActOk.kept {w w' : World} {x : ActP} (h : ActOk w x) (hk : Kept S0 w w') : ActOk w' x :=
  ⟨h.p.keptS hk (fun _ _ e => e), h.r.keptS hk (fun _ _ e => e), h.l.keptS hk (fun _ _ e => e), h.lok, h.b.keptS hk (fun _ _ e => e), h.i.kept hk, h.n1, h.n2, h.t1, h.t2, h.t3, h.t4, h.m1, h.m2, h.m3, h.m4, h.v⟩
theorem ActL.kept {w w' : World} {A : Option Addr} {n : Nat} {D : Nat → Int} {X : Nat → ActP} (h : ActL w A n D X) (hk : Kept S0 w w') : ActL w' A n D X := by
  refine ⟨fun hn => ?_, fun i hi => (h.ok i hi).kept hk⟩
  obtain ⟨b, o, e, hc⟩ := h.el hn
  refine ⟨b, o, e, fun i hi j hj => ?_⟩
  have h1 := hc i hi j hj
  have hlt : b < w.heap.size := by
    have h2 := hc 0 hn 0 (by omega)
    have h3 : ((X 0).cells (D 0))[0]? = some (.int .i64 (D 0)) := rfl
    rw [h3] at h2
    exact World.block_lt_of_cell? _ _ h2
  rw [hk.cell (p := ⟨b, o + i * 32 + j, none⟩) hlt (fun e => e)]
  exact h1
theorem addr_add (b o j : Nat) : (⟨b, o, none⟩ : Addr).add j = ⟨b, o + j, none⟩ := by
  unfold Addr.add
  split <;> simp_all
section
variable {P : Program}
theorem run_loadVar_cells (w : World) (a : Addr) (ty : TypeId) (cs : Array Value) (d : TypeDesc) (hc : ∀ j, j < cs.size → w.cell? (a.add j) = cs[j]?)
    (hu : P.underlying ty = some d) (hd : (match d with | .struct _ | .array _ _ => true | _ => false) = true) (hi : (P.info? ty).map (·.size) = some cs.size) :
    (loadVar ty a).run P w = .ok (.agg cs) w := by
  have hl : (loadCells a cs.toList.length).run P w = .ok cs.toList.toArray w :=
    run_loadCells_list (P := P) w a cs.toList (fun j v hv => by
      have hj : j < cs.size := by
        obtain ⟨h, _⟩ := List.getElem?_eq_some_iff.1 hv
        simpa using h
      rw [hc j hj]
      simpa using hv)
  cases hq : P.info? ty with
  | none => simp [hq] at hi
  | some i =>
    have hs : i.size = cs.size := by simpa [hq] using hi
    have hagg : (isAgg ty).run P w = .ok true w := by
      unfold isAgg
      rw [Sem.run_bind, run_underlying hu w]
      cases d <;> simp_all
    simp only [Array.length_toList, Array.toArray_toList] at hl
    simp [loadVar, Sem.run_bind, hagg, sizeOf, typeInfo, hq, hs, hl]
theorem wpList_load_cells {ops : Array Oper} {rest : List Oper} {o : Oper} {a : Act} {w : World} {Q : Exit → Act → World → Prop} (hgd : o.guard = none) (ty : TypeId) (x : Operand) (ho : o.op = .load ty x)
    (p : Addr) (hx : a.eval x = .pointer (some p)) (cs : Array Value) (d : TypeDesc) (hc : ∀ j, j < cs.size → w.cell? (p.add j) = cs[j]?)
    (hu : P.underlying ty = some d) (hd : (match d with | .struct _ | .array _ _ => true | _ => false) = true) (hi : (P.info? ty).map (·.size) = some cs.size)
    (h : wpList P ops Q rest (a.put o.dst (.agg cs)) w) : wpList P ops Q (o :: rest) a w := by
  refine wpList_plain hgd fun _ hK => ?_
  unfold Oper.wp execOp
  simp only [ho, hx, Instr.loadAt, Instr.sureAddr, Sem.run_bind, Sem.run_pure, Result.andThen_ok, run_loadVar_cells w p ty cs d hc hu hd hi]
  exact hK _ _ h
end
def PSt.zero : PSt := ⟨0, fun _ => ⟨0, fun _ => 0, 0, fun _ => 0, false, ByteArray.empty, 0, 0⟩, 0, fun _ => ⟨0, 0, false, 0, fun _ => ⟨0, 0, 0⟩⟩, 0, fun _ => ⟨0, 0, false⟩, 0, fun _ => ⟨0, false, ⟨0, 0, 0⟩⟩, 0, fun _ => ⟨0, 0, fun _ => ⟨0, 0, 0⟩⟩, 0, 0, fun _ => ⟨fun _ => ⟨0, fun _ => 0⟩, 0, fun _ => 0, fun _ => 0⟩⟩
def SV.zero : SV := ⟨.slice none 0 0, .slice none 0 0, .slice none 0 0, .slice none 0 0, .slice none 0 0, .slice none 0 0, .slice none 0 0, fun _ => undef, fun _ => undef, fun _ => undef, fun _ => undef, fun _ => undef, fun _ => undef, fun _ => undef⟩
def lab2 (sb rb : Nat) : Nat → Nat := fun b => if b = sb then 1 else if b = rb then 2 else 0
theorem own_zero {w : World} {B e s : Nat} {Q : Value → Prop} {F : Nat → Value} : Own w B e s Q (.slice none 0 0) 0 F := .inl ⟨rfl, rfl⟩
theorem noB {lab : Nat → Nat} {k : Nat} : ∀ b, (Value.slice none 0 0).ownBlock = some b → lab b = k := fun b e => by cases e
theorem sat_zero {B sb rb : Nat} {w : World} (hb : Blk w sb 132 (stCells (.slice none 0 0) (.slice none 0 0) (.slice none 0 0) (.slice none 0 0) (.slice none 0 0) (.slice none 0 0) (.slice none 0 0))) (hB : B ≤ sb) : SAt B (lab2 sb rb) w sb PSt.zero SV.zero :=
  ⟨⟨hb, if_pos rfl, hB, own_zero, own_zero, own_zero, own_zero, own_zero, own_zero, own_zero, noB, noB, noB, noB, noB, noB, noB⟩,
   ⟨fun i hi => absurd hi (Nat.not_lt_zero i), fun i hi => absurd hi (Nat.not_lt_zero i), fun i hi => absurd hi (Nat.not_lt_zero i), fun i hi => absurd hi (Nat.not_lt_zero i), fun i hi => absurd hi (Nat.not_lt_zero i)⟩, fun i hi => absurd hi (Nat.not_lt_zero i), fun i hi => absurd hi (Nat.not_lt_zero i)⟩
theorem rat_zero {B sb rb : Nat} {w : World} (hb : Blk w rb 89 (rCells (.slice none 0 0) (.slice none 0 0) (.slice none 0 0) (.slice none 0 0) (.slice none 0 0) (.slice none 0 0) (.slice none 0 0))) (hB : B ≤ rb) (hne : rb ≠ sb) : RAt B (lab2 sb rb) w rb PSt.zero SV.zero :=
  ⟨⟨hb, by unfold lab2; rw [if_neg hne, if_pos rfl], hB, own_zero, own_zero, own_zero, own_zero, own_zero, own_zero, own_zero, noB, noB, noB, noB, noB, noB, noB⟩,
   ⟨fun i hi => absurd hi (Nat.not_lt_zero i), fun i hi => absurd hi (Nat.not_lt_zero i), fun i hi => absurd hi (Nat.not_lt_zero i), fun i hi => absurd hi (Nat.not_lt_zero i), fun i hi => absurd hi (Nat.not_lt_zero i)⟩, fun i hi => absurd hi (Nat.not_lt_zero i), fun i hi => absurd hi (Nat.not_lt_zero i)⟩
/-- Both stores, alike. -/
def FInv (w0 : World) (sb rb k : Nat) (w : World) : Prop := ∃ lab v u P, SAt w0.heap.size lab w sb P v ∧ RAt w0.heap.size lab w rb P u ∧ Bas w0 lab w ∧ P.Le k
def Filled (w0 : World) (e : Ending) (w : World) : Prop := ∃ sb rb, e = .returned (.tuple #[.pointer (some ⟨sb, 0, none⟩), .pointer (some ⟨rb, 0, none⟩), .bool true]) ∧ FInv w0 sb rb 30 w
theorem FInv.mono {w0 w : World} {sb rb k j : Nat} (h : FInv w0 sb rb k w) (hj : k ≤ j) : FInv w0 sb rb j w := by
  obtain ⟨lab, v, u, P, h1, h2, h3, h4⟩ := h
  exact ⟨lab, v, u, P, h1, h2, h3, h4.mono hj⟩
set_option maxRecDepth 100000 in
set_option maxHeartbeats 3200000 in
theorem filled_any (A : Option Addr) (n c : Nat) (D : Nat → Int) (X : Nat → ActP) (w : World) (hl : ActL w A n D X) (hn : n ≤ 9223372036854775806) :
    Calls Tryz.prog 8 #[.slice A n c] w (Filled w) := by
  have HL := Lib.hid hl
  clear hl
  go_enter Tryz.func8, Tryz.ntmps8
  go_wp2_with fail
  refine (news_any w).mono ?_
  rintro e w1 ⟨rfl, hb, hk1, hsz⟩
  have hka : Kept S0 w1 (w1.alloc (.cells (rCells (.slice none 0 0) (.slice none 0 0) (.slice none 0 0) (.slice none 0 0) (.slice none 0 0) (.slice none 0 0) (.slice none 0 0)) 89)) := (Kept.refl S0 w1).alloc _
  have HF := Lib.hid (show FInv w w.heap.size (w.heap.size + 1) 0 (w1.alloc (.cells (rCells (.slice none 0 0) (.slice none 0 0) (.slice none 0 0) (.slice none 0 0) (.slice none 0 0) (.slice none 0 0) (.slice none 0 0)) 89)) from by
    have hr := Blk.new w1 89 (rCells (.slice none 0 0) (.slice none 0 0) (.slice none 0 0) (.slice none 0 0) (.slice none 0 0) (.slice none 0 0) (.slice none 0 0))
    rw [hsz] at hr
    exact ⟨lab2 w.heap.size (w.heap.size + 1), SV.zero, SV.zero, PSt.zero, sat_zero (hka.blk hb (fun e => e)) (Nat.le_refl _), rat_zero hr (by omega) (by omega), ⟨hk1.trans hka, fun b hb => by unfold lab2; rw [if_neg (by omega), if_neg (by omega)]⟩, ⟨Nat.le_refl _, Nat.le_refl _, Nat.le_refl _, Nat.le_refl _, Nat.le_refl _, Nat.le_refl _, Nat.le_refl _⟩⟩)
  clear hb hk1 hka
  go_wp2_with fail
  unfold rCells at HF
  clear hsz
  generalize (w1.alloc (.cells #[.slice none 0 0, .slice none 0 0, .slice none 0 0, .slice none 0 0, .slice none 0 0, .slice none 0 0, .slice none 0 0] 89)) = w2 at *
  generalize hsb : w.heap.size = sb at *
  clear hsb
  go_loopw [7] (fun i wr => ∃ k : Nat, k ≤ n ∧ k ≤ 30 ∧ i = .int .i64 (k : Int) ∧ FInv w sb (sb + 1) k wr) (fun i _ => 31 - (intOf i).toNat)
  case atStart => exact ⟨0, Nat.zero_le _, by omega, rfl, HF.out⟩
  case round =>
    obtain ⟨k, hk, hk30, rfl, hf⟩ := hrel
    have HFI := Lib.hid hf
    clear hf
    by_cases hlt : k < n
    · by_cases h30 : k < 30
      · obtain ⟨lab, v, u, P, hs, hr, hb, hP⟩ := HFI.out
        have hLr := HL.out.kept hb.k
        obtain ⟨b, o, rfl, hc⟩ := hLr.el (by omega)
        have HC := Lib.hid (show ∀ j, j < ((X k).cells (D k)).size → wr.cell? ((⟨b, o + k * 32, none⟩ : Addr).add j) = ((X k).cells (D k))[j]? from fun j hj => by
          rw [addr_add]
          exact hc k hlt j hj)
        have HS := Lib.hid hs
        have HR := Lib.hid hr
        have HB := Lib.hid hb
        have HP := Lib.hid hP
        clear hs hr hb hP hLr hc HFI
        go_wp2_with (refine wpList_load_cells rfl 79 _ rfl ⟨b, o + k * 32, none⟩ rfl ((X k).cells (D k)) _ HC.out Tryz.underlying79 rfl (by kernel_rfl) ?_)
        refine (both_any (w0 := w) (X k) (D k) (HL.out.ok k hlt) HS.out HR.out HB.out (HP.out.mono (by omega))).mono ?_
        rintro e w' ⟨rfl, lab', v', u', hs', hr', hm⟩
        have HF2 := Lib.hid (show FInv w sb (sb + 1) (k + 1) w' from ⟨lab', v', u', _, hs', hr', HB.out.move hm (fun _ x => x), HP.out.both (D k) (X k)⟩)
        clear hs' hr' hm
        go_wp2_with fail
        go_roundw
        case rel => exact ⟨k + 1, by omega, by omega, by go_num, HF2.out⟩
        case measure => simp [intOf]; omega
      · go_wp2_with fail
        go_ret3
        exact ⟨sb, sb + 1, rfl, HFI.out.mono (by omega)⟩
    · go_wp2_with fail
      go_ret3
      exact ⟨sb, sb + 1, rfl, HFI.out.mono (by omega)⟩
end Go.Proofs.YtlnkdnmeikpckaaGreat
namespace Go.Proofs.YtlnkdnmeikpckaaGreat
open Go.RowKit
set_option maxRecDepth 100000
/-- A store's object, its lists written out. -/
theorem SAt.obj {B sb : Nat} {lab : Nat → Nat} {w : World} {P : PSt} {v : SV} (h : SAt B lab w sb P v) : ∃ A0 A1 A2 A3 A4 A5 A6 c0 c1 c2 c3 c4 c5 c6, Blk w sb 132 (stCells (.slice A0 P.nf c0) (.slice A1 P.nt c1) (.slice A2 P.nm c2) (.slice A3 P.ng c3) (.slice A4 P.ne c4) (.slice A5 P.nd c5) (.slice A6 P.ni c6)) ∧
    v.fl = .slice A0 P.nf c0 ∧ v.tl = .slice A1 P.nt c1 ∧ v.ml = .slice A2 P.nm c2 ∧ v.gl = .slice A3 P.ng c3 ∧ v.el = .slice A4 P.ne c4 ∧ v.dl = .slice A5 P.nd c5 ∧ v.il = .slice A6 P.ni c6 := by
  obtain ⟨A0, c0, e0, _⟩ := h.ls.f.out
  obtain ⟨A1, c1, e1, _⟩ := h.ls.t.out
  obtain ⟨A2, c2, e2, _⟩ := h.ls.m.out
  obtain ⟨A3, c3, e3, _⟩ := h.ls.g.out
  obtain ⟨A4, c4, e4, _⟩ := h.ls.e.out
  obtain ⟨A5, c5, e5, _⟩ := h.ls.d.out
  obtain ⟨A6, c6, e6, _⟩ := h.ls.i.out
  have ho := h.ls.obj
  rw [e0, e1, e2, e3, e4, e5, e6] at ho
  exact ⟨A0, A1, A2, A3, A4, A5, A6, c0, c1, c2, c3, c4, c5, c6, ho, e0, e1, e2, e3, e4, e5, e6⟩
section
variable {B sb : Nat} {lab : Nat → Nat} {w : World} {P : PSt} {v : SV}
end
end Go.Proofs.YtlnkdnmeikpckaaGreat
namespace Go.Proofs.YtlnkdnmeikpckaaGreat
open Go.RowKit
set_option maxRecDepth 100000
section
variable {B sb rb : Nat} {lab : Nat → Nat} {w : World} {P : PSt} {v u : SV}
theorem s_sizes (h : SAt B lab w sb P v) : Calls Tryz.prog 13 #[.pointer (some ⟨sb, 0, none⟩)] w fun e w' => e = .returned (.agg #[.int .i64 (P.nf : Int), .int .i64 (P.nt : Int), .int .i64 (P.nm : Int), .int .i64 (P.ng : Int), .int .i64 (P.ne : Int), .int .i64 (P.nd : Int), .int .i64 (P.ni : Int)]) ∧ Kept S0 w w' := by
  obtain ⟨A0, A1, A2, A3, A4, A5, A6, c0, c1, c2, c3, c4, c5, c6, hb, _⟩ := SAt.obj h
  exact sizes_any hb
end
end Go.Proofs.YtlnkdnmeikpckaaGreat
namespace Go.Proofs.YtlnkdnmeikpckaaGreat
open Go.ChangeShapes Go.WideShapes Go.ChangeAt Go.RowKit Go.Joins
set_option maxRecDepth 100000
section
variable {H : Type} {enc : TypeId × Value → H} {P : Program}
theorem trodAll_stays (hl : laidOutB P = true) {W W' : World} (hb : Below W.heap.size W W') : ∀ (ts : List TypeId), (∀ t ∈ ts, P.readableRec t = true ∧ t < P.types.size) → ∀ {vs : List Value} {ds : List (DataW H)} {ps : List MemPlace},
    DataW.TrodAll enc P W 0 (fun _ => true) true ts vs ds ps → (∀ x ∈ ps, x.block < W.heap.size) → ∀ {sp : Nat → Bool}, (∀ x ∈ ps, sp x.block = true) → DataW.TrodAll enc P W' 0 sp true ts vs ds ps
  | [], _, vs, ds, ps, h, _, sp, _ => by
    obtain ⟨rfl, rfl, rfl⟩ := trodAll_nil h
    exact rfl
  | t :: ts, ht, vs, ds, ps, h, hlt, sp, hsp => by
    obtain ⟨v, vs', d, ds', p, q, rfl, rfl, rfl, hd, hrest⟩ := trodAll_cons h
    obtain ⟨hr, hrow⟩ := ht t (List.mem_cons_self ..)
    have h1 := WideElems.Trod_stays (sp' := sp) hl hr hrow hd (fun x hx => hb.same (hlt x (List.mem_append_left _ hx))) (fun x hx => hsp x (List.mem_append_left _ hx))
    have h2 := trodAll_stays hl hb ts (fun t' ht' => ht t' (List.mem_cons_of_mem _ ht')) hrest (fun x hx => hlt x (List.mem_append_right _ hx)) (sp := sp) (fun x hx => hsp x (List.mem_append_right _ hx))
    exact trodAll_cons_mk h1 h2
/-- The post of a law: true, all arguments as they were. -/
theorem post_law {f : Func} {s : ChangeSpec} {apart fresh handsOn : Bool} {W W' : World} {args : Array Value} {ds gs : List (DataW H)} {before : List MemPlace} {tb : TypeId}
    (hl : laidOutB P = true) (hts : ∀ t ∈ f.params.toList, P.readableRec t = true ∧ t < P.types.size)
    (hW : DataW.Whole enc P f.params.toList s.vars apart W args.toList ds gs before) (hvars : s.vars = []) (hbool : P.underlying tb = some .bool) (hrt : f.resultTypes = #[tb])
    (hfn : s.fn H (ds ++ gs) = { results := [.lit (.bool true)], args := ds }) (hb : Below W.heap.size W W') :
    s.post enc P f apart fresh handsOn false W args (.bool true) W' := by
  have hlt : ∀ p ∈ before, p.block < W.heap.size := fun p hp => hW.lt p hp
  have hold : ∀ p ∈ before, (fun b => decide (b < W.heap.size)) p.block = true := fun p hp => by simpa using hlt p hp
  have hW2 := hW
  obtain ⟨p, q, hA, hV, rfl, _, _⟩ := hW2
  have hq : gs = [] ∧ q = [] := by
    rw [hvars] at hV
    exact trodVars_none hV
  obtain ⟨rfl, rfl⟩ := hq
  rw [List.append_nil] at hW hlt hold
  refine ⟨ds, [], p, [], p, [], hW, ?_, ?_, ?_, World.keptBut_mono (fun x hx => ⟨hx, .inr (by simpa using hx)⟩) (hb.frame (· ∈ p)), fun h => by cases h⟩
  · rw [hfn, hrt]
    exact trodAll_mk1 (shut_bool hbool true)
  · rw [hfn]
    exact trodAll_stays hl hb _ hts hA hlt hold
  · rw [hfn, hvars]
    exact rfl
end
theorem bounds_u8 {x : Int} (h : (Lit.int .u8 x).wf = true) : 0 ≤ x ∧ x ≤ 255 := by simpa [Lit.wf, IntKind.min, IntKind.max, IntKind.signed, IntKind.bits] using h
theorem bounds_u32 {x : Int} (h : (Lit.int .u32 x).wf = true) : 0 ≤ x ∧ x ≤ 4294967295 := by simpa [Lit.wf, IntKind.min, IntKind.max, IntKind.signed, IntKind.bits] using h
theorem bounds_u64 {x : Int} (h : (Lit.int .u64 x).wf = true) : 0 ≤ x ∧ x ≤ 18446744073709551615 := by simpa [Lit.wf, IntKind.min, IntKind.max, IntKind.signed, IntKind.bits] using h
theorem bounds_i64 {x : Int} (h : (Lit.int .i64 x).wf = true) : -9223372036854775808 ≤ x ∧ x ≤ 9223372036854775807 := by simpa [Lit.wf, IntKind.min, IntKind.max, IntKind.signed, IntKind.bits] using h
end Go.Proofs.YtlnkdnmeikpckaaGreat
