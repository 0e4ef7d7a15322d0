/- Whatever the input, StoreTyped returns true and its arguments read as they did. No condition. -/
import Derived.Test.YtlnkdnmeikpckaaGreatMSta
import Derived.Test.YtlnkdnmeikpckaaGreatMStb
import Derived.Test.YtlnkdnmeikpckaaGreatMStc
import Derived.Test.YtlnkdnmeikpckaaGreatMSte
import Derived.Test.YtlnkdnmeikpckaaGreatMStf
import Derived.Test.YtlnkdnmeikpckaaGreatMStg
import Derived.Test.YtlnkdnmeikpckaaGreatMSth
import Derived.Test.YtlnkdnmeikpckaaGreatMStj
import Derived.Test.YtlnkdnmeikpckaaGreatMStl
import Derived.Test.YtlnkdnmeikpckaaGreatMStm
import Derived.Test.YtlnkdnmeikpckaaGreatMTya
import Derived.Test.YtlnkdnmeikpckaaGreatMTyb
import Derived.Test.YtlnkdnmeikpckaaGreatMTyc
import Derived.Test.YtlnkdnmeikpckaaGreatRows
import Derived.ProofKit
import Derived.SizedLaws
import Derived.Lib.SmallJoins
namespace Go.Proofs.YtlnkdnmeikpckaaGreat
open Go.RowKit
set_option maxRecDepth 100000
/-- The document's store's object, its lists written out. -/
theorem RAt.obj {B sb : Nat} {lab : Nat → Nat} {w : World} {P : PSt} {v : SV} (h : RAt B lab w sb P v) : ∃ A0 A1 A2 A3 A4 A5 A6 c0 c1 c2 c3 c4 c5 c6, Blk w sb 89 (rCells (.slice A0 P.nf c0) (.slice A1 P.nt c1) (.slice A2 P.nm c2) (.slice A3 P.ng c3) (.slice A4 P.ne c4) (.slice A5 P.nd c5) (.slice A6 P.ni c6)) ∧
    v.fl = .slice A0 P.nf c0 ∧ v.tl = .slice A1 P.nt c1 ∧ v.ml = .slice A2 P.nm c2 ∧ v.gl = .slice A3 P.ng c3 ∧ v.el = .slice A4 P.ne c4 ∧ v.dl = .slice A5 P.nd c5 ∧ v.il = .slice A6 P.ni c6 := by
  obtain ⟨A0, c0, e0, _⟩ := h.ls.f.out
  obtain ⟨A1, c1, e1, _⟩ := h.ls.t.out
  obtain ⟨A2, c2, e2, _⟩ := h.ls.m.out
  obtain ⟨A3, c3, e3, _⟩ := h.ls.g.out
  obtain ⟨A4, c4, e4, _⟩ := h.ls.e.out
  obtain ⟨A5, c5, e5, _⟩ := h.ls.d.out
  obtain ⟨A6, c6, e6, _⟩ := h.ls.i.out
  have ho := h.ls.obj
  rw [e0, e1, e2, e3, e4, e5, e6] at ho
  exact ⟨A0, A1, A2, A3, A4, A5, A6, c0, c1, c2, c3, c4, c5, c6, ho, e0, e1, e2, e3, e4, e5, e6⟩
section
variable {B rb : Nat} {lab : Nat → Nat} {wa : World} {P : PSt} {v : SV}
set_option maxRecDepth 100000 in
set_option maxHeartbeats 20000000 in
theorem rtyped_any (h : RAt B lab wa rb P v) (hl : P.Le 60) :
    Calls Tryz.prog 22 #[.pointer (some ⟨rb, 0, none⟩)] wa fun e w' => e = .returned (.bool (typedB P)) ∧ Kept S0 wa w' := by
  have HS := Lib.hid h
  have l0 := hl.f
  have l1 := hl.t
  have l2 := hl.m
  have l3 := hl.g
  have l4 := hl.e
  have l5 := hl.d
  have l6 := hl.i
  clear h hl
  obtain ⟨A0, A1, A2, A3, A4, A5, A6, c0, c1, c2, c3, c4, c5, c6, hob, e0, e1, e2, e3, e4, e5, e6⟩ := HS.out.obj
  have E1 := Lib.hid e1
  have E3 := Lib.hid e3
  have E4 := Lib.hid e4
  have E6 := Lib.hid e6
  have HB := Lib.hid hob
  clear e0 e1 e2 e3 e4 e5 e6 hob
  go_enter Tryz.func22, Tryz.ntmps22
  go_wp2_with fail
  go_loopw [3] (fun i wr => ∃ k : Nat, k ≤ P.nt ∧ i = .int .i64 (k : Int) ∧ (∀ j, j < k → allB P.nf (P.T j).f (P.T j).n = true) ∧ Kept S0 wa wr) (fun i _ => P.nt - (intOf i).toNat)
  case atStart => exact ⟨0, by omega, rfl, fun j hj => absurd hj (by omega), Kept.refl S0 wa⟩
  case round =>
    obtain ⟨k, hk, rfl, hok, hkw⟩ := hrel
    have HOK := Lib.hid hok
    have HKW := Lib.hid hkw
    clear hok hkw
    have k1 : wr.cell? ⟨rb, 1, none⟩ = some (.slice A1 P.nt c1) := keep0 HKW.out (HB.out.cell 1)
    by_cases hlt : k < P.nt
    · have HS1 := Lib.hid (HS.out.kept0 HKW.out)
      obtain ⟨tb, mn, lt, f0, ht, _, _⟩ := (HS1.out.tb k hlt).ex
      have hown := HS1.out.ls.t
      rw [E1.out] at hown
      obtain ⟨g, cc, hsl, _, _⟩ := hown.is_some (by omega)
      cases hsl
      have q0 := (hown.rowcell (j := k) (by omega)).trans (congrArg some f0)
      obtain ⟨tA, tc, htl, _, _, hts⟩ := ht.own.out
      have q1 := ht.c4
      rw [htl] at q1
      have i0 : (0 : Int) ≤ (k : Int) := by omega
      have i1 : (k : Int) < (P.nt : Int) := by omega
      have HC := Lib.hid (allr_any rb A0 P.nf c0 tA (P.T k).n tc (P.T k).f wr (keep0 HKW.out (HB.out.cell 0)) (by omega) hts (by have := (HS1.out.tb k hlt).hn; omega) (HS1.out.tb k hlt).ok)
      clear ht hown f0 htl hts
      go_wp2_with fail
      refine HC.out.mono ?_
      rintro e w4 ⟨rfl, hk4⟩
      have HK4 := Lib.hid (HKW.out.then0 hk4)
      clear hk4 q0 q1 k1
      cases hc : allB P.nf (P.T k).f (P.T k).n with
      | true =>
        have HCC := Lib.hid hc
        clear hc
        go_wp2_with fail
        go_roundw
        case rel => exact ⟨k + 1, by omega, by go_num, fun j hj => by
          rcases Nat.lt_or_ge j k with h | h
          · exact HOK.out j h
          · obtain rfl : j = k := by omega
            exact HCC.out, HK4.out⟩
        case measure => simp [intOf]; omega
      | false =>
        have HCC := Lib.hid hc
        clear hc
        go_wp2_with fail
        go_ret
        exact ⟨ret_bool (by rw [typed_1 hlt HCC.out]), HK4.out⟩
    · obtain rfl : k = P.nt := by omega
      obtain ⟨wz, hwz⟩ : ∃ wz, wz = wr := ⟨_, rfl⟩
      subst hwz
      have OK1 := HOK
      have HKZ := HKW
      clear HOK HKW
      have i1 : ¬ ((P.nt : Int) < (P.nt : Int)) := by omega
      go_wp2_with fail
      clear i1 k1
      go_loopw [4] (fun i wr => ∃ k : Nat, k ≤ P.ng ∧ i = .int .i64 (k : Int) ∧ (∀ j, j < k → globOk P.nf (P.G j) = true) ∧ Kept S0 wa wr) (fun i _ => P.ng - (intOf i).toNat)
      case atStart => exact ⟨0, by omega, rfl, fun j hj => absurd hj (by omega), HKZ.out⟩
      case round =>
        obtain ⟨k, hk, rfl, hok, hkw⟩ := hrel
        have HOK := Lib.hid hok
        have HKW := Lib.hid hkw
        clear hok hkw hlt
        have k3 : wr.cell? ⟨rb, 3, none⟩ = some (.slice A3 P.ng c3) := keep0 HKW.out (HB.out.cell 3)
        by_cases hlt : k < P.ng
        · have HS1 := Lib.hid (HS.out.kept0 HKW.out)
          have hgl := HS1.out.st.gl k hlt
          have hown := HS1.out.ls.g
          rw [E3.out] at hown
          obtain ⟨g, cc, hsl, _, _⟩ := hown.is_some (by omega)
          cases hsl
          have hd := (Kept.refl S0 wr).drew
          have hS0 : (wr.drew.cell? ⟨rb, 3, none⟩ = some (.slice (some ⟨g, 0, none⟩) P.ng c3) ∧ wr.drew.cell? ⟨g, k * 5, none⟩ = some (.int .u8 (P.G k).t) ∧ wr.drew.cell? ⟨g, k * 5 + 2, none⟩ = some (.int .u8 (P.G k).x.t) ∧ wr.drew.cell? ⟨g, k * 5 + 2 + 1, none⟩ = some (.int .u64 (P.G k).x.lo) ∧ wr.drew.cell? ⟨g, k * 5 + 2 + 2, none⟩ = some (.int .u64 (P.G k).x.hi)) := ⟨k3, (hown.rowcell (j := k * 5) (by omega)).trans (congrArg some hgl.f0), (hown.rowcell (j := k * 5 + 2) (by omega)).trans (congrArg some hgl.f2), (hown.rowcell (j := k * 5 + 3) (by omega)).trans (congrArg some hgl.f3), (hown.rowcell (j := k * 5 + 4) (by omega)).trans (congrArg some hgl.f4)⟩
          have HSX := Lib.hid hS0
          have i0 : (0 : Int) ≤ (k : Int) := by omega
          have i1 : (k : Int) < (P.ng : Int) := by omega
          have HC := Lib.hid (rightv_any rb A0 P.nf c0 (P.G k).x wr.drew (keep0 (HKW.out.drew) (HB.out.cell 0)) (by omega) hgl.ok.1 hgl.ok.2)
          have HK3 := Lib.hid (HKW.out.drew)
          clear hgl hown hd hS0
          go_wp2_with fail
          clear k3
          refine wp_region_R (fun w' => (w'.cell? ⟨rb, 3, none⟩ = some (.slice (some ⟨g, 0, none⟩) P.ng c3) ∧ w'.cell? ⟨g, k * 5, none⟩ = some (.int .u8 (P.G k).t) ∧ w'.cell? ⟨g, k * 5 + 2, none⟩ = some (.int .u8 (P.G k).x.t) ∧ w'.cell? ⟨g, k * 5 + 2 + 1, none⟩ = some (.int .u64 (P.G k).x.lo) ∧ w'.cell? ⟨g, k * 5 + 2 + 2, none⟩ = some (.int .u64 (P.G k).x.hi))) [] (by kernel_rfl) ?_
          have hS := HSX.out
          generalize wr.drew = w2 at *
          cases ht : ((P.G k).x.t == (P.G k).t) with
          | false =>
            have htt : ((P.G k).x.t != (P.G k).t) = true := by unfold bne; rw [ht]; rfl
            have HF := Lib.hid (typed_2 hlt (show globOk P.nf (P.G k) = false by unfold globOk; rw [ht]; rfl))
            clear ht
            (first | (refine tkR 0 (v := ?_) rfl hS ⟨by rfl, ?_⟩ ?_; rotate_left; intro w h; (try dsimp only at h); first | (go_simp; done) | (go_simp; with_reducible rfl)) | refine skR 0 rfl (fun _ => hS) (by rfl) ?_); simp only [zq1, zq2, Act.put, zq4, zq5, zq6]
            (first | (refine tkR 1 (v := ?_) rfl hS ⟨by rfl, ?_⟩ ?_; rotate_left; intro w h; (try dsimp only at h); first | (go_simp; done) | (go_simp; with_reducible rfl)) | refine skR 1 rfl (fun _ => hS) (by rfl) ?_); simp only [zq1, zq2, zq3, Act.put, zq4, zq5, zq6]
            (first | (refine tkR 2 (v := ?_) rfl hS ⟨by rfl, ?_⟩ ?_; rotate_left; intro w h; (try dsimp only at h); first | (go_simp; done) | (go_simp; with_reducible rfl)) | refine skR 2 rfl (fun _ => hS) (by rfl) ?_); simp only [zq1, zq2, zq3, Act.put, zq4, zq5, zq6]
            (first | (refine tkR 3 (v := ?_) rfl hS ⟨by rfl, ?_⟩ ?_; rotate_left; intro w h; (try dsimp only at h); first | (go_simp; done) | (go_simp; with_reducible rfl)) | refine skR 3 rfl (fun _ => hS) (by rfl) ?_); simp only [zq1, zq2, zq3, Act.put, zq4, zq5, zq6]
            (first | (refine tkR 4 (v := ?_) rfl hS ⟨by rfl, ?_⟩ ?_; rotate_left; intro w h; (try dsimp only at h); first | (go_simp; done) | (go_simp; with_reducible rfl)) | refine skR 4 rfl (fun _ => hS) (by rfl) ?_); simp only [zq1, zq2, zq3, Act.put, zq4, zq5, zq6]
            (first | (refine tkR 5 (v := ?_) rfl hS ⟨by rfl, ?_⟩ ?_; rotate_left; intro w h; (try dsimp only at h); first | (go_simp; done) | (go_simp; with_reducible rfl)) | refine skR 5 rfl (fun _ => hS) (by rfl) ?_); simp only [zq1, zq2, zq3, Act.put, zq4, zq5, zq6]
            (first | (refine tkR 6 (v := ?_) rfl hS ⟨by rfl, ?_⟩ ?_; rotate_left; intro w h; (try dsimp only at h); first | (go_simp; done) | (go_simp; with_reducible rfl)) | refine skR 6 rfl (fun _ => hS) (by rfl) ?_); simp only [zq1, zq2, zq3, Act.put, zq4, zq5, zq6]
            (first | (refine tkR 7 (v := ?_) rfl hS ⟨by rfl, ?_⟩ ?_; rotate_left; intro w h; (try dsimp only at h); first | (go_simp; done) | (go_simp; with_reducible rfl)) | refine skR 7 rfl (fun _ => hS) (by rfl) ?_); simp only [zq1, zq2, zq3, Act.put, zq4, zq5, zq6]
            (first | (refine tkR 8 (v := ?_) rfl hS ⟨by rfl, ?_⟩ ?_; rotate_left; intro w h; (try dsimp only at h); first | (go_simp; done) | (go_simp; with_reducible rfl)) | refine skR 8 rfl (fun _ => hS) (by rfl) ?_); simp only [zq1, zq2, zq3, Act.put, zq4, zq5, zq6]
            (first | (refine tkR 9 (v := ?_) rfl hS ⟨by rfl, ?_⟩ ?_; rotate_left; intro w h; (try dsimp only at h); first | (go_simp; done) | (go_simp; with_reducible rfl)) | refine skR 9 rfl (fun _ => hS) (by rfl) ?_); simp only [zq1, zq2, zq3, Act.put, zq4, zq5, zq6]
            (first | (refine tkR 10 (v := ?_) rfl hS ⟨by rfl, ?_⟩ ?_; rotate_left; intro w h; (try dsimp only at h); first | (go_simp; done) | (go_simp; with_reducible rfl)) | refine skR 10 rfl (fun _ => hS) (by rfl) ?_); simp only [zq1, zq2, zq3, Act.put, zq4, zq5, zq6]
            (first | (refine tkR 11 (v := ?_) rfl hS ⟨by rfl, ?_⟩ ?_; rotate_left; intro w h; (try dsimp only at h); first | (go_simp; done) | (go_simp; with_reducible rfl)) | refine skR 11 rfl (fun _ => hS) (by rfl) ?_); simp only [zq1, zq2, zq3, Act.put, zq4, zq5, zq6]
            (first | (refine tkR 12 (v := ?_) rfl hS ⟨by rfl, ?_⟩ ?_; rotate_left; intro w h; (try dsimp only at h); first | (go_simp; done) | (go_simp; with_reducible rfl)) | refine skR 12 rfl (fun _ => hS) (by rfl) ?_); simp only [zq1, zq2, zq3, Act.put, zq4, zq5, zq6]
            (first | (refine tkR 13 (v := ?_) rfl hS ⟨by rfl, ?_⟩ ?_; rotate_left; intro w h; (try dsimp only at h); first | (go_simp; done) | (go_simp; with_reducible rfl)) | refine skR 13 rfl (fun _ => hS) (by rfl) ?_); simp only [zq1, zq2, zq3, Act.put, zq4, zq5, zq6]
            (first | (refine tkR 14 (v := ?_) rfl hS ⟨by rfl, ?_⟩ ?_; rotate_left; intro w h; (try dsimp only at h); first | (go_simp; done) | (go_simp; with_reducible rfl)) | refine skR 14 rfl (fun _ => hS) (by rfl) ?_); simp only [zq1, zq2, zq3, Act.put, zq4, zq5, zq6]
            (first | (refine tkR 15 (v := ?_) rfl hS ⟨by rfl, ?_⟩ ?_; rotate_left; intro w h; (try dsimp only at h); first | (go_simp; done) | (go_simp; with_reducible rfl)) | refine skR 15 rfl (fun _ => hS) (by rfl) ?_); simp only [zq1, zq2, zq3, Act.put, zq4, zq5, zq6]
            (first | (refine tkR 16 (v := ?_) rfl hS ⟨by rfl, ?_⟩ ?_; rotate_left; intro w h; (try dsimp only at h); first | (go_simp; done) | (go_simp; with_reducible rfl)) | refine skR 16 rfl (fun _ => hS) (by rfl) ?_); simp only [zq1, zq2, zq3, Act.put, zq4, zq5, zq6]
            (first | (refine tkR 17 (v := ?_) rfl hS ⟨by rfl, ?_⟩ ?_; rotate_left; intro w h; (try dsimp only at h); first | (go_simp; done) | (go_simp; with_reducible rfl)) | refine skR 17 rfl (fun _ => hS) (by rfl) ?_); simp only [zq1, zq2, zq3, Act.put, zq4, zq5, zq6]
            (first | (refine tkR 18 (v := ?_) rfl hS ⟨by rfl, ?_⟩ ?_; rotate_left; intro w h; (try dsimp only at h); first | (go_simp; done) | (go_simp; with_reducible rfl)) | refine skR 18 rfl (fun _ => hS) (by rfl) ?_); simp only [zq1, zq2, zq3, Act.put, zq4, zq5, zq6]
            (first | (refine tkR 19 (v := ?_) rfl hS ⟨by rfl, ?_⟩ ?_; rotate_left; intro w h; (try dsimp only at h); first | (go_simp; done) | (go_simp; with_reducible rfl)) | refine skR 19 rfl (fun _ => hS) (by rfl) ?_); simp only [zq1, zq2, zq3, Act.put, zq4, zq5, zq6]
            (first | (refine tkR 20 (v := ?_) rfl hS ⟨by rfl, ?_⟩ ?_; rotate_left; intro w h; (try dsimp only at h); first | (go_simp; done) | (go_simp; with_reducible rfl)) | refine skR 20 rfl (fun _ => hS) (by rfl) ?_); simp only [zq1, zq2, zq3, Act.put, zq4, zq5, zq6]
            (first | (refine tkR 21 (v := ?_) rfl hS ⟨by rfl, ?_⟩ ?_; rotate_left; intro w h; (try dsimp only at h); first | (go_simp; done) | (go_simp; with_reducible rfl)) | refine skR 21 rfl (fun _ => hS) (by rfl) ?_); simp only [zq1, zq2, zq3, Act.put, zq4, zq5, zq6]
            (first | (refine tkR 22 (v := ?_) rfl hS ⟨by rfl, ?_⟩ ?_; rotate_left; intro w h; (try dsimp only at h); first | (go_simp; done) | (go_simp; with_reducible rfl)) | refine skR 22 rfl (fun _ => hS) (by rfl) ?_); simp only [zq1, zq2, zq3, Act.put, zq4, zq5, zq6]
            (first | (refine tkR 23 (v := ?_) rfl hS ⟨by rfl, ?_⟩ ?_; rotate_left; intro w h; (try dsimp only at h); first | (go_simp; done) | (go_simp; with_reducible rfl)) | refine skR 23 rfl (fun _ => hS) (by rfl) ?_); simp only [zq1, zq2, zq3, Act.put, zq4, zq5, zq6]
            (first | (refine tkR 24 (v := ?_) rfl hS ⟨by rfl, ?_⟩ ?_; rotate_left; intro w h; (try dsimp only at h); first | (go_simp; done) | (go_simp; with_reducible rfl)) | refine skR 24 rfl (fun _ => hS) (by rfl) ?_); simp only [zq1, zq2, zq3, Act.put, zq4, zq5, zq6]
            (first | (refine tkR 25 (v := ?_) rfl hS ⟨by rfl, ?_⟩ ?_; rotate_left; intro w h; (try dsimp only at h); first | (go_simp; done) | (go_simp; with_reducible rfl)) | refine skR 25 rfl (fun _ => hS) (by rfl) ?_); simp only [zq1, zq2, zq3, Act.put, zq4, zq5, zq6]
            (first | (refine tkR 26 (v := ?_) rfl hS ⟨by rfl, ?_⟩ ?_; rotate_left; intro w h; (try dsimp only at h); first | (go_simp; done) | (go_simp; with_reducible rfl)) | refine skR 26 rfl (fun _ => hS) (by rfl) ?_); simp only [zq1, zq2, zq3, Act.put, zq4, zq5, zq6]
            (first | (refine tkR 27 (v := ?_) rfl hS ⟨by rfl, ?_⟩ ?_; rotate_left; intro w h; (try dsimp only at h); first | (go_simp; done) | (go_simp; with_reducible rfl)) | refine skR 27 rfl (fun _ => hS) (by rfl) ?_); simp only [zq1, zq2, zq3, Act.put, zq4, zq5, zq6]
            (first | (refine tkR 28 (v := ?_) rfl hS ⟨by rfl, ?_⟩ ?_; rotate_left; intro w h; (try dsimp only at h); first | (go_simp; done) | (go_simp; with_reducible rfl)) | refine skR 28 rfl (fun _ => hS) (by rfl) ?_); simp only [zq1, zq2, zq3, Act.put, zq4, zq5, zq6]
            (first | (refine tkR 29 (v := ?_) rfl hS ⟨by rfl, ?_⟩ ?_; rotate_left; intro w h; (try dsimp only at h); first | (go_simp; done) | (go_simp; with_reducible rfl)) | refine skR 29 rfl (fun _ => hS) (by rfl) ?_); simp only [zq1, zq2, zq3, Act.put, zq4, zq5, zq6]
            (first | (refine tkR 30 (v := ?_) rfl hS ⟨by rfl, ?_⟩ ?_; rotate_left; intro w h; (try dsimp only at h); first | (go_simp; done) | (go_simp; with_reducible rfl)) | refine skR 30 rfl (fun _ => hS) (by rfl) ?_); simp only [zq1, zq2, zq3, Act.put, zq4, zq5, zq6]
            (first | (refine tkR 31 (v := ?_) rfl hS ⟨by rfl, ?_⟩ ?_; rotate_left; intro w h; (try dsimp only at h); first | (go_simp; done) | (go_simp; with_reducible rfl)) | refine skR 31 rfl (fun _ => hS) (by rfl) ?_); simp only [zq1, zq2, zq3, Act.put, zq4, zq5, zq6]
            refine wpAnyR_done (by kernel_rfl) ?_ _
            clear hS HSX
            go_wp2_with fail
            go_ret
            exact ⟨ret_bool (by rw [HF.out]), HK3.out⟩
          | true =>
            have htt : ((P.G k).x.t != (P.G k).t) = false := by unfold bne; rw [ht]; rfl
            have HT := Lib.hid ht
            clear ht
            (first | (refine tkR 0 (v := ?_) rfl hS ⟨by rfl, ?_⟩ ?_; rotate_left; intro w h; (try dsimp only at h); first | (go_simp; done) | (go_simp; with_reducible rfl)) | refine skR 0 rfl (fun _ => hS) (by rfl) ?_); simp only [zq1, zq2, Act.put, zq4, zq5, zq6]
            (first | (refine tkR 1 (v := ?_) rfl hS ⟨by rfl, ?_⟩ ?_; rotate_left; intro w h; (try dsimp only at h); first | (go_simp; done) | (go_simp; with_reducible rfl)) | refine skR 1 rfl (fun _ => hS) (by rfl) ?_); simp only [zq1, zq2, zq3, Act.put, zq4, zq5, zq6]
            (first | (refine tkR 2 (v := ?_) rfl hS ⟨by rfl, ?_⟩ ?_; rotate_left; intro w h; (try dsimp only at h); first | (go_simp; done) | (go_simp; with_reducible rfl)) | refine skR 2 rfl (fun _ => hS) (by rfl) ?_); simp only [zq1, zq2, zq3, Act.put, zq4, zq5, zq6]
            (first | (refine tkR 3 (v := ?_) rfl hS ⟨by rfl, ?_⟩ ?_; rotate_left; intro w h; (try dsimp only at h); first | (go_simp; done) | (go_simp; with_reducible rfl)) | refine skR 3 rfl (fun _ => hS) (by rfl) ?_); simp only [zq1, zq2, zq3, Act.put, zq4, zq5, zq6]
            (first | (refine tkR 4 (v := ?_) rfl hS ⟨by rfl, ?_⟩ ?_; rotate_left; intro w h; (try dsimp only at h); first | (go_simp; done) | (go_simp; with_reducible rfl)) | refine skR 4 rfl (fun _ => hS) (by rfl) ?_); simp only [zq1, zq2, zq3, Act.put, zq4, zq5, zq6]
            (first | (refine tkR 5 (v := ?_) rfl hS ⟨by rfl, ?_⟩ ?_; rotate_left; intro w h; (try dsimp only at h); first | (go_simp; done) | (go_simp; with_reducible rfl)) | refine skR 5 rfl (fun _ => hS) (by rfl) ?_); simp only [zq1, zq2, zq3, Act.put, zq4, zq5, zq6]
            (first | (refine tkR 6 (v := ?_) rfl hS ⟨by rfl, ?_⟩ ?_; rotate_left; intro w h; (try dsimp only at h); first | (go_simp; done) | (go_simp; with_reducible rfl)) | refine skR 6 rfl (fun _ => hS) (by rfl) ?_); simp only [zq1, zq2, zq3, Act.put, zq4, zq5, zq6]
            (first | (refine tkR 7 (v := ?_) rfl hS ⟨by rfl, ?_⟩ ?_; rotate_left; intro w h; (try dsimp only at h); first | (go_simp; done) | (go_simp; with_reducible rfl)) | refine skR 7 rfl (fun _ => hS) (by rfl) ?_); simp only [zq1, zq2, zq3, Act.put, zq4, zq5, zq6]
            (first | (refine tkR 8 (v := ?_) rfl hS ⟨by rfl, ?_⟩ ?_; rotate_left; intro w h; (try dsimp only at h); first | (go_simp; done) | (go_simp; with_reducible rfl)) | refine skR 8 rfl (fun _ => hS) (by rfl) ?_); simp only [zq1, zq2, zq3, Act.put, zq4, zq5, zq6]
            (first | (refine tkR 9 (v := ?_) rfl hS ⟨by rfl, ?_⟩ ?_; rotate_left; intro w h; (try dsimp only at h); first | (go_simp; done) | (go_simp; with_reducible rfl)) | refine skR 9 rfl (fun _ => hS) (by rfl) ?_); simp only [zq1, zq2, zq3, Act.put, zq4, zq5, zq6]
            (first | (refine tkR 10 (v := ?_) rfl hS ⟨by rfl, ?_⟩ ?_; rotate_left; intro w h; (try dsimp only at h); first | (go_simp; done) | (go_simp; with_reducible rfl)) | refine skR 10 rfl (fun _ => hS) (by rfl) ?_); simp only [zq1, zq2, zq3, Act.put, zq4, zq5, zq6]
            (first | (refine tkR 11 (v := ?_) rfl hS ⟨by rfl, ?_⟩ ?_; rotate_left; intro w h; (try dsimp only at h); first | (go_simp; done) | (go_simp; with_reducible rfl)) | refine skR 11 rfl (fun _ => hS) (by rfl) ?_); simp only [zq1, zq2, zq3, Act.put, zq4, zq5, zq6]
            (first | (refine tkR 12 (v := ?_) rfl hS ⟨by rfl, ?_⟩ ?_; rotate_left; intro w h; (try dsimp only at h); first | (go_simp; done) | (go_simp; with_reducible rfl)) | refine skR 12 rfl (fun _ => hS) (by rfl) ?_); simp only [zq1, zq2, zq3, Act.put, zq4, zq5, zq6]
            (first | (refine tkR 13 (v := ?_) rfl hS ⟨by rfl, ?_⟩ ?_; rotate_left; intro w h; (try dsimp only at h); first | (go_simp; done) | (go_simp; with_reducible rfl)) | refine skR 13 rfl (fun _ => hS) (by rfl) ?_); simp only [zq1, zq2, zq3, Act.put, zq4, zq5, zq6]
            (first | (refine tkR 14 (v := ?_) rfl hS ⟨by rfl, ?_⟩ ?_; rotate_left; intro w h; (try dsimp only at h); first | (go_simp; done) | (go_simp; with_reducible rfl)) | refine skR 14 rfl (fun _ => hS) (by rfl) ?_); simp only [zq1, zq2, zq3, Act.put, zq4, zq5, zq6]
            (first | (refine tkR 15 (v := ?_) rfl hS ⟨by rfl, ?_⟩ ?_; rotate_left; intro w h; (try dsimp only at h); first | (go_simp; done) | (go_simp; with_reducible rfl)) | refine skR 15 rfl (fun _ => hS) (by rfl) ?_); simp only [zq1, zq2, zq3, Act.put, zq4, zq5, zq6]
            (first | (refine tkR 16 (v := ?_) rfl hS ⟨by rfl, ?_⟩ ?_; rotate_left; intro w h; (try dsimp only at h); first | (go_simp; done) | (go_simp; with_reducible rfl)) | refine skR 16 rfl (fun _ => hS) (by rfl) ?_); simp only [zq1, zq2, zq3, Act.put, zq4, zq5, zq6]
            (first | (refine tkR 17 (v := ?_) rfl hS ⟨by rfl, ?_⟩ ?_; rotate_left; intro w h; (try dsimp only at h); first | (go_simp; done) | (go_simp; with_reducible rfl)) | refine skR 17 rfl (fun _ => hS) (by rfl) ?_); simp only [zq1, zq2, zq3, Act.put, zq4, zq5, zq6]
            (first | (refine tkR 18 (v := ?_) rfl hS ⟨by rfl, ?_⟩ ?_; rotate_left; intro w h; (try dsimp only at h); first | (go_simp; done) | (go_simp; with_reducible rfl)) | refine skR 18 rfl (fun _ => hS) (by rfl) ?_); simp only [zq1, zq2, zq3, Act.put, zq4, zq5, zq6]
            (first | (refine tkR 19 (v := ?_) rfl hS ⟨by rfl, ?_⟩ ?_; rotate_left; intro w h; (try dsimp only at h); first | (go_simp; done) | (go_simp; with_reducible rfl)) | refine skR 19 rfl (fun _ => hS) (by rfl) ?_); simp only [zq1, zq2, zq3, Act.put, zq4, zq5, zq6]
            (first | (refine tkR 20 (v := ?_) rfl hS ⟨by rfl, ?_⟩ ?_; rotate_left; intro w h; (try dsimp only at h); first | (go_simp; done) | (go_simp; with_reducible rfl)) | refine skR 20 rfl (fun _ => hS) (by rfl) ?_); simp only [zq1, zq2, zq3, Act.put, zq4, zq5, zq6]
            (first | (refine tkR 21 (v := ?_) rfl hS ⟨by rfl, ?_⟩ ?_; rotate_left; intro w h; (try dsimp only at h); first | (go_simp; done) | (go_simp; with_reducible rfl)) | refine skR 21 rfl (fun _ => hS) (by rfl) ?_); simp only [zq1, zq2, zq3, Act.put, zq4, zq5, zq6]
            (first | (refine tkR 22 (v := ?_) rfl hS ⟨by rfl, ?_⟩ ?_; rotate_left; intro w h; (try dsimp only at h); first | (go_simp; done) | (go_simp; with_reducible rfl)) | refine skR 22 rfl (fun _ => hS) (by rfl) ?_); simp only [zq1, zq2, zq3, Act.put, zq4, zq5, zq6]
            (first | (refine tkR 23 (v := ?_) rfl hS ⟨by rfl, ?_⟩ ?_; rotate_left; intro w h; (try dsimp only at h); first | (go_simp; done) | (go_simp; with_reducible rfl)) | refine skR 23 rfl (fun _ => hS) (by rfl) ?_); simp only [zq1, zq2, zq3, Act.put, zq4, zq5, zq6]
            (first | (refine tkR 24 (v := ?_) rfl hS ⟨by rfl, ?_⟩ ?_; rotate_left; intro w h; (try dsimp only at h); first | (go_simp; done) | (go_simp; with_reducible rfl)) | refine skR 24 rfl (fun _ => hS) (by rfl) ?_); simp only [zq1, zq2, zq3, Act.put, zq4, zq5, zq6]
            (first | (refine tkR 25 (v := ?_) rfl hS ⟨by rfl, ?_⟩ ?_; rotate_left; intro w h; (try dsimp only at h); first | (go_simp; done) | (go_simp; with_reducible rfl)) | refine skR 25 rfl (fun _ => hS) (by rfl) ?_); simp only [zq1, zq2, zq3, Act.put, zq4, zq5, zq6]
            (first | (refine tkR 26 (v := ?_) rfl hS ⟨by rfl, ?_⟩ ?_; rotate_left; intro w h; (try dsimp only at h); first | (go_simp; done) | (go_simp; with_reducible rfl)) | refine skR 26 rfl (fun _ => hS) (by rfl) ?_); simp only [zq1, zq2, zq3, Act.put, zq4, zq5, zq6]
            (first | (refine tkR 27 (v := ?_) rfl hS ⟨by rfl, ?_⟩ ?_; rotate_left; intro w h; (try dsimp only at h); first | (go_simp; done) | (go_simp; with_reducible rfl)) | refine skR 27 rfl (fun _ => hS) (by rfl) ?_); simp only [zq1, zq2, zq3, Act.put, zq4, zq5, zq6]
            (first | (refine tkR 28 (v := ?_) rfl hS ⟨by rfl, ?_⟩ ?_; rotate_left; intro w h; (try dsimp only at h); first | (go_simp; done) | (go_simp; with_reducible rfl)) | refine skR 28 rfl (fun _ => hS) (by rfl) ?_); simp only [zq1, zq2, zq3, Act.put, zq4, zq5, zq6]
            refine wpAnyR_one 29 rfl (by kernel_rfl) (fun K hK => ?_)
            go_simp
            go_at_call 57
            refine HC.out.mono ?_
            rintro e w4 ⟨rfl, hk4⟩
            have HK4 := Lib.hid (HK3.out.then0 hk4)
            have hS4 : (w4.cell? ⟨rb, 3, none⟩ = some (.slice (some ⟨g, 0, none⟩) P.ng c3) ∧ w4.cell? ⟨g, k * 5, none⟩ = some (.int .u8 (P.G k).t) ∧ w4.cell? ⟨g, k * 5 + 2, none⟩ = some (.int .u8 (P.G k).x.t) ∧ w4.cell? ⟨g, k * 5 + 2 + 1, none⟩ = some (.int .u64 (P.G k).x.lo) ∧ w4.cell? ⟨g, k * 5 + 2 + 2, none⟩ = some (.int .u64 (P.G k).x.hi)) := ⟨keep0 hk4 hS.1, keep0 hk4 hS.2.1, keep0 hk4 hS.2.2.1, keep0 hk4 hS.2.2.2.1, keep0 hk4 hS.2.2.2.2⟩
            refine hK.out _ _ (fun _ => hS4) ?_
            clear hK K hS HSX hk4
            cases hc : rightB P.nf (P.G k).x with
            | true =>
              have HCC := Lib.hid (show globOk P.nf (P.G k) = true by unfold globOk; rw [HT.out, hc]; rfl)
              clear hc
              (first | (refine tkR 30 (v := ?_) rfl hS4 ⟨by rfl, ?_⟩ ?_; rotate_left; intro w h; (try dsimp only at h); first | (go_simp; done) | (go_simp; with_reducible rfl)) | refine skR 30 rfl (fun _ => hS4) (by rfl) ?_); simp only [zq1, zq2, zq3, Act.put, zq4, zq5, zq6]
              (first | (refine tkR 31 (v := ?_) rfl hS4 ⟨by rfl, ?_⟩ ?_; rotate_left; intro w h; (try dsimp only at h); first | (go_simp; done) | (go_simp; with_reducible rfl)) | refine skR 31 rfl (fun _ => hS4) (by rfl) ?_); simp only [zq1, zq2, zq3, Act.put, zq4, zq5, zq6]
              refine wpAnyR_done (by kernel_rfl) ?_ _
              clear hS4
              go_wp2_with fail
              go_roundw
              case rel => exact ⟨k + 1, by omega, by go_num, fun j hj => by
                rcases Nat.lt_or_ge j k with h | h
                · exact HOK.out j h
                · obtain rfl : j = k := by omega
                  exact HCC.out, HK4.out⟩
              case measure => simp [intOf]; omega
            | false =>
              have HCC := Lib.hid (typed_2 hlt (show globOk P.nf (P.G k) = false by unfold globOk; rw [HT.out, hc]; rfl))
              clear hc
              (first | (refine tkR 30 (v := ?_) rfl hS4 ⟨by rfl, ?_⟩ ?_; rotate_left; intro w h; (try dsimp only at h); first | (go_simp; done) | (go_simp; with_reducible rfl)) | refine skR 30 rfl (fun _ => hS4) (by rfl) ?_); simp only [zq1, zq2, zq3, Act.put, zq4, zq5, zq6]
              (first | (refine tkR 31 (v := ?_) rfl hS4 ⟨by rfl, ?_⟩ ?_; rotate_left; intro w h; (try dsimp only at h); first | (go_simp; done) | (go_simp; with_reducible rfl)) | refine skR 31 rfl (fun _ => hS4) (by rfl) ?_); simp only [zq1, zq2, zq3, Act.put, zq4, zq5, zq6]
              refine wpAnyR_done (by kernel_rfl) ?_ _
              clear hS4
              go_wp2_with fail
              go_ret
              exact ⟨ret_bool (by rw [HCC.out]), HK4.out⟩
        · obtain rfl : k = P.ng := by omega
          obtain ⟨wy, hwy⟩ : ∃ wy, wy = wr := ⟨_, rfl⟩
          subst hwy
          have OK2 := HOK
          have HKY := HKW
          clear HOK HKW
          have i1 : ¬ ((P.ng : Int) < (P.ng : Int)) := by omega
          go_wp2_with fail
          clear i1 k3
          go_loopw [5] (fun i wr => ∃ k : Nat, k ≤ P.ne ∧ i = .int .i64 (k : Int) ∧ (∀ j, j < k → allB P.nf (P.E j).f (P.E j).n = true) ∧ Kept S0 wa wr) (fun i _ => P.ne - (intOf i).toNat)
          case atStart => exact ⟨0, by omega, rfl, fun j hj => absurd hj (by omega), HKY.out⟩
          case round =>
            obtain ⟨k, hk, rfl, hok, hkw⟩ := hrel
            have HOK := Lib.hid hok
            have HKW := Lib.hid hkw
            clear hok hkw hlt
            have k4 : wr.cell? ⟨rb, 4, none⟩ = some (.slice A4 P.ne c4) := keep0 HKW.out (HB.out.cell 4)
            by_cases hlt : k < P.ne
            · have HS1 := Lib.hid (HS.out.kept0 HKW.out)
              obtain ⟨eA, ec, f0, f1, hl1⟩ := (HS1.out.st.el k hlt).ex
              have hown := HS1.out.ls.e
              rw [E4.out] at hown
              obtain ⟨g, cc, hsl, _, _⟩ := hown.is_some (by omega)
              cases hsl
              have q1 := (hown.rowcell (j := k * 2 + 1) (by omega)).trans (congrArg some f1)
              have i0 : (0 : Int) ≤ (k : Int) := by omega
              have i1 : (k : Int) < (P.ne : Int) := by omega
              have hls := hl1.lsl
              have HC := Lib.hid (allr_any rb A0 P.nf c0 eA (P.E k).n ec (P.E k).f wr (keep0 HKW.out (HB.out.cell 0)) (by omega) hls.sl (by have := hls.sm; omega) (HS1.out.st.el k hlt).ok)
              clear hown f0 f1 hl1 hls
              go_wp2_with fail
              refine HC.out.mono ?_
              rintro e w4 ⟨rfl, hk4⟩
              have HK4 := Lib.hid (HKW.out.then0 hk4)
              clear hk4 q1 k4
              cases hc : allB P.nf (P.E k).f (P.E k).n with
              | true =>
                have HCC := Lib.hid hc
                clear hc
                go_wp2_with fail
                go_roundw
                case rel => exact ⟨k + 1, by omega, by go_num, fun j hj => by
                  rcases Nat.lt_or_ge j k with h | h
                  · exact HOK.out j h
                  · obtain rfl : j = k := by omega
                    exact HCC.out, HK4.out⟩
                case measure => simp [intOf]; omega
              | false =>
                have HCC := Lib.hid hc
                clear hc
                go_wp2_with fail
                go_ret
                exact ⟨ret_bool (by rw [typed_3 hlt HCC.out]), HK4.out⟩
            · obtain rfl : k = P.ne := by omega
              obtain ⟨wx, hwx⟩ : ∃ wx, wx = wr := ⟨_, rfl⟩
              subst hwx
              have OK3 := HOK
              have HKX := HKW
              clear HOK HKW
              have i1 : ¬ ((P.ne : Int) < (P.ne : Int)) := by omega
              go_wp2_with fail
              clear i1 k4
              refine (rsizes_any (HKX.out.blk HB.out (fun x => x))).mono ?_
              rintro e w3 ⟨rfl, hk3⟩
              have hal := hk3.alloc (.cells #[.int .i64 (P.nf : Int), .int .i64 (P.nt : Int), .int .i64 (P.nm : Int), .int .i64 (P.ng : Int), .int .i64 (P.ne : Int), .int .i64 (P.nd : Int), .int .i64 (P.ni : Int)] 43)
              have HKA := Lib.hid (HKX.out.then0 hal)
              have HAR := Lib.hid (Blk.new w3 43 #[.int .i64 (P.nf : Int), .int .i64 (P.nt : Int), .int .i64 (P.nm : Int), .int .i64 (P.ng : Int), .int .i64 (P.ne : Int), .int .i64 (P.nd : Int), .int .i64 (P.ni : Int)])
              clear hk3 hal
              go_wp2_with fail
              generalize hab : w3.heap.size = ab at *
              generalize w3.alloc (.cells #[.int .i64 (P.nf : Int), .int .i64 (P.nt : Int), .int .i64 (P.nm : Int), .int .i64 (P.ng : Int), .int .i64 (P.ne : Int), .int .i64 (P.nd : Int), .int .i64 (P.ni : Int)] 43) = wb at *
              clear hab
              go_loopw [7] (fun i wr => ∃ k : Nat, k ≤ P.ni ∧ i = .int .i64 (k : Int) ∧ (∀ j, j < k → instB P (P.I j) = true) ∧ Kept S0 wb wr) (fun i _ => P.ni - (intOf i).toNat)
              case atStart => exact ⟨0, by omega, rfl, fun j hj => absurd hj (by omega), Kept.refl S0 wb⟩
              case round =>
                obtain ⟨k, hk, rfl, hok, hkw⟩ := hrel
                have HOK := Lib.hid hok
                have HKW := Lib.hid hkw
                clear hok hkw hlt
                have k6 : wr.cell? ⟨rb, 6, none⟩ = some (.slice A6 P.ni c6) := keep0 (HKA.out.then0 HKW.out) (HB.out.cell 6)
                by_cases hlt : k < P.ni
                · have HS2 := Lib.hid (HS.out.kept0 (HKA.out.then0 HKW.out))
                  obtain ⟨ib, f0, hin⟩ := (HS2.out.st.inn k hlt).ex
                  have hown := HS2.out.ls.i
                  rw [E6.out] at hown
                  obtain ⟨g, cc, hsl, _, _⟩ := hown.is_some (by omega)
                  cases hsl
                  have q0 := (hown.rowcell (j := k) (by omega)).trans (congrArg some f0)
                  have i0 : (0 : Int) ≤ (k : Int) := by omega
                  have i1 : (k : Int) < (P.ni : Int) := by omega
                  obtain ⟨B0, d0, hc0, hl0⟩ := hin.a 0 (by omega)
                  have HL0 := Lib.hid hl0.lsl
                  obtain ⟨B1, d1, hc1, hl1⟩ := hin.a 1 (by omega)
                  have HL1 := Lib.hid hl1.lsl
                  obtain ⟨B2, d2, hc2, hl2⟩ := hin.a 2 (by omega)
                  have HL2 := Lib.hid hl2.lsl
                  obtain ⟨B3, d3, hc3, hl3⟩ := hin.a 3 (by omega)
                  have HL3 := Lib.hid hl3.lsl
                  obtain ⟨B4, d4, hc4, hl4⟩ := hin.a 4 (by omega)
                  have HL4 := Lib.hid hl4.lsl
                  obtain ⟨B5, d5, hc5, hl5⟩ := hin.a 5 (by omega)
                  have HL5 := Lib.hid hl5.lsl
                  obtain ⟨TA, tn, tc, ht0⟩ := hin.t
                  obtain ⟨CA, cn, ccc, hcc⟩ := hin.c
                  obtain ⟨XA, xc, XV, hx8, hxl8, hxf⟩ := hin.e
                  have HXL := Lib.hid hxl8.lsl
                  have HXF := Lib.hid hxf
                  have g0 : wr.cell? ⟨ib, 1, none⟩ = some (.slice B0 ((P.I k).a 0).n d0) := hc0
                  have g1 : wr.cell? ⟨ib, 2, none⟩ = some (.slice B1 ((P.I k).a 1).n d1) := hc1
                  have g2 : wr.cell? ⟨ib, 3, none⟩ = some (.slice B2 ((P.I k).a 2).n d2) := hc2
                  have g3 : wr.cell? ⟨ib, 4, none⟩ = some (.slice B3 ((P.I k).a 3).n d3) := hc3
                  have g4 : wr.cell? ⟨ib, 5, none⟩ = some (.slice B4 ((P.I k).a 4).n d4) := hc4
                  have g5 : wr.cell? ⟨ib, 6, none⟩ = some (.slice B5 ((P.I k).a 5).n d5) := hc5
                  have hal : Kept S0 wr (wr.alloc (.cells #[.slice TA tn tc, .slice B0 ((P.I k).a 0).n d0, .slice B1 ((P.I k).a 1).n d1, .slice B2 ((P.I k).a 2).n d2, .slice B3 ((P.I k).a 3).n d3, .slice B4 ((P.I k).a 4).n d4, .slice B5 ((P.I k).a 5).n d5, .slice CA cn ccc, .slice XA (P.I k).en xc] 77)) := (Kept.refl S0 wr).alloc _
                  have HBX := Lib.hid (Blk.new wr 77 #[.slice TA tn tc, .slice B0 ((P.I k).a 0).n d0, .slice B1 ((P.I k).a 1).n d1, .slice B2 ((P.I k).a 2).n d2, .slice B3 ((P.I k).a 3).n d3, .slice B4 ((P.I k).a 4).n d4, .slice B5 ((P.I k).a 5).n d5, .slice CA cn ccc, .slice XA (P.I k).en xc])
                  have HQ0 := Lib.hid (KS.mk hal)
                  have HAR0 := Lib.hid (HKW.out.then0 hal)
                  have y1 : (wr.alloc (.cells #[.slice TA tn tc, .slice B0 ((P.I k).a 0).n d0, .slice B1 ((P.I k).a 1).n d1, .slice B2 ((P.I k).a 2).n d2, .slice B3 ((P.I k).a 3).n d3, .slice B4 ((P.I k).a 4).n d4, .slice B5 ((P.I k).a 5).n d5, .slice CA cn ccc, .slice XA (P.I k).en xc] 77)).cell? ⟨wr.heap.size, 1, none⟩ = some (.slice B0 ((P.I k).a 0).n d0) := HBX.out.cell 1
                  have z0 : (wr.alloc (.cells #[.slice TA tn tc, .slice B0 ((P.I k).a 0).n d0, .slice B1 ((P.I k).a 1).n d1, .slice B2 ((P.I k).a 2).n d2, .slice B3 ((P.I k).a 3).n d3, .slice B4 ((P.I k).a 4).n d4, .slice B5 ((P.I k).a 5).n d5, .slice CA cn ccc, .slice XA (P.I k).en xc] 77)).cell? ⟨ab, 0, none⟩ = some (.int .i64 (P.nf : Int)) := keep0 HAR0.out (HAR.out.cell 0)
                  clear hin hown f0 hxl8 hxf hal hc0 hl0 hc1 hl1 hc2 hl2 hc3 hl3 hc4 hl4 hc5 hl5
                  go_wp2_with fail
                  generalize hnb : wr.heap.size = nb at *
                  generalize wr.alloc (.cells #[.slice TA tn tc, .slice B0 ((P.I k).a 0).n d0, .slice B1 ((P.I k).a 1).n d1, .slice B2 ((P.I k).a 2).n d2, .slice B3 ((P.I k).a 3).n d3, .slice B4 ((P.I k).a 4).n d4, .slice B5 ((P.I k).a 5).n d5, .slice CA cn ccc, .slice XA (P.I k).en xc] 77) = v0 at *
                  clear hnb q0 k6 ht0 hcc hx8 g0 g1 g2 g3 g4 g5
                  refine (below_any (P.nf : Int) B0 ((P.I k).a 0).n d0 ((P.I k).a 0).f _ (HQ0.out.sl HL0.out) (by have := HL0.out.sm; omega)).mono ?_
                  rintro e v1 ⟨rfl, hq⟩
                  have HQ1 := Lib.hid (HQ0.out.then0 hq)
                  have HAR1 := Lib.hid (HAR0.out.then0 hq)
                  have HW1 := Lib.hid (hq)
                  clear hq y1 z0
                  cases hb0 : belowB ((P.I k).a 0).f ((P.I k).a 0).n (P.nf : Int) with
                  | false =>
                    have HBF := Lib.hid (typed_4 hlt (show instB P (P.I k) = false by unfold instB; rw [hb0]; simp))
                    clear hb0
                    go_wp2_with fail
                    go_ret
                    exact ⟨ret_bool (by rw [HBF.out]), HKA.out.then0 HAR1.out⟩
                  | true =>
                    have HB0 := Lib.hid hb0
                    clear hb0
                    have y1 : v1.cell? ⟨nb, 2, none⟩ = some (.slice B1 ((P.I k).a 1).n d1) := keep0 HW1.out (HBX.out.cell 2)
                    have z0 : v1.cell? ⟨ab, 1, none⟩ = some (.int .i64 (P.nt : Int)) := keep0 HAR1.out (HAR.out.cell 1)
                    go_wp2_with fail
                    refine (below_any (P.nt : Int) B1 ((P.I k).a 1).n d1 ((P.I k).a 1).f _ (HQ1.out.sl HL1.out) (by have := HL1.out.sm; omega)).mono ?_
                    rintro e v2 ⟨rfl, hq⟩
                    have HQ2 := Lib.hid (HQ1.out.then0 hq)
                    have HAR2 := Lib.hid (HAR1.out.then0 hq)
                    have HW2 := Lib.hid (HW1.out.then0 hq)
                    clear hq y1 z0
                    cases hb1 : belowB ((P.I k).a 1).f ((P.I k).a 1).n (P.nt : Int) with
                    | false =>
                      have HBF := Lib.hid (typed_4 hlt (show instB P (P.I k) = false by unfold instB; rw [hb1, HB0.out]; simp))
                      clear hb1
                      go_wp2_with fail
                      go_ret
                      exact ⟨ret_bool (by rw [HBF.out]), HKA.out.then0 HAR2.out⟩
                    | true =>
                      have HB1 := Lib.hid hb1
                      clear hb1
                      have y1 : v2.cell? ⟨nb, 3, none⟩ = some (.slice B2 ((P.I k).a 2).n d2) := keep0 HW2.out (HBX.out.cell 3)
                      have z0 : v2.cell? ⟨ab, 2, none⟩ = some (.int .i64 (P.nm : Int)) := keep0 HAR2.out (HAR.out.cell 2)
                      go_wp2_with fail
                      refine (below_any (P.nm : Int) B2 ((P.I k).a 2).n d2 ((P.I k).a 2).f _ (HQ2.out.sl HL2.out) (by have := HL2.out.sm; omega)).mono ?_
                      rintro e v3 ⟨rfl, hq⟩
                      have HQ3 := Lib.hid (HQ2.out.then0 hq)
                      have HAR3 := Lib.hid (HAR2.out.then0 hq)
                      have HW3 := Lib.hid (HW2.out.then0 hq)
                      clear hq y1 z0
                      cases hb2 : belowB ((P.I k).a 2).f ((P.I k).a 2).n (P.nm : Int) with
                      | false =>
                        have HBF := Lib.hid (typed_4 hlt (show instB P (P.I k) = false by unfold instB; rw [hb2, HB0.out, HB1.out]; simp))
                        clear hb2
                        go_wp2_with fail
                        go_ret
                        exact ⟨ret_bool (by rw [HBF.out]), HKA.out.then0 HAR3.out⟩
                      | true =>
                        have HB2 := Lib.hid hb2
                        clear hb2
                        have y1 : v3.cell? ⟨nb, 4, none⟩ = some (.slice B3 ((P.I k).a 3).n d3) := keep0 HW3.out (HBX.out.cell 4)
                        have z0 : v3.cell? ⟨ab, 3, none⟩ = some (.int .i64 (P.ng : Int)) := keep0 HAR3.out (HAR.out.cell 3)
                        go_wp2_with fail
                        refine (below_any (P.ng : Int) B3 ((P.I k).a 3).n d3 ((P.I k).a 3).f _ (HQ3.out.sl HL3.out) (by have := HL3.out.sm; omega)).mono ?_
                        rintro e v4 ⟨rfl, hq⟩
                        have HQ4 := Lib.hid (HQ3.out.then0 hq)
                        have HAR4 := Lib.hid (HAR3.out.then0 hq)
                        have HW4 := Lib.hid (HW3.out.then0 hq)
                        clear hq y1 z0
                        cases hb3 : belowB ((P.I k).a 3).f ((P.I k).a 3).n (P.ng : Int) with
                        | false =>
                          have HBF := Lib.hid (typed_4 hlt (show instB P (P.I k) = false by unfold instB; rw [hb3, HB0.out, HB1.out, HB2.out]; simp))
                          clear hb3
                          go_wp2_with fail
                          go_ret
                          exact ⟨ret_bool (by rw [HBF.out]), HKA.out.then0 HAR4.out⟩
                        | true =>
                          have HB3 := Lib.hid hb3
                          clear hb3
                          have y1 : v4.cell? ⟨nb, 5, none⟩ = some (.slice B4 ((P.I k).a 4).n d4) := keep0 HW4.out (HBX.out.cell 5)
                          have z0 : v4.cell? ⟨ab, 4, none⟩ = some (.int .i64 (P.ne : Int)) := keep0 HAR4.out (HAR.out.cell 4)
                          go_wp2_with fail
                          refine (below_any (P.ne : Int) B4 ((P.I k).a 4).n d4 ((P.I k).a 4).f _ (HQ4.out.sl HL4.out) (by have := HL4.out.sm; omega)).mono ?_
                          rintro e v5 ⟨rfl, hq⟩
                          have HQ5 := Lib.hid (HQ4.out.then0 hq)
                          have HAR5 := Lib.hid (HAR4.out.then0 hq)
                          have HW5 := Lib.hid (HW4.out.then0 hq)
                          clear hq y1 z0
                          cases hb4 : belowB ((P.I k).a 4).f ((P.I k).a 4).n (P.ne : Int) with
                          | false =>
                            have HBF := Lib.hid (typed_4 hlt (show instB P (P.I k) = false by unfold instB; rw [hb4, HB0.out, HB1.out, HB2.out, HB3.out]; simp))
                            clear hb4
                            go_wp2_with fail
                            go_ret
                            exact ⟨ret_bool (by rw [HBF.out]), HKA.out.then0 HAR5.out⟩
                          | true =>
                            have HB4 := Lib.hid hb4
                            clear hb4
                            have y1 : v5.cell? ⟨nb, 6, none⟩ = some (.slice B5 ((P.I k).a 5).n d5) := keep0 HW5.out (HBX.out.cell 6)
                            have z0 : v5.cell? ⟨ab, 5, none⟩ = some (.int .i64 (P.nd : Int)) := keep0 HAR5.out (HAR.out.cell 5)
                            go_wp2_with fail
                            refine (below_any (P.nd : Int) B5 ((P.I k).a 5).n d5 ((P.I k).a 5).f _ (HQ5.out.sl HL5.out) (by have := HL5.out.sm; omega)).mono ?_
                            rintro e v6 ⟨rfl, hq⟩
                            have HQ6 := Lib.hid (HQ5.out.then0 hq)
                            have HAR6 := Lib.hid (HAR5.out.then0 hq)
                            have HW6 := Lib.hid (HW5.out.then0 hq)
                            clear hq y1 z0
                            cases hb5 : belowB ((P.I k).a 5).f ((P.I k).a 5).n (P.nd : Int) with
                            | false =>
                              have HBF := Lib.hid (typed_4 hlt (show instB P (P.I k) = false by unfold instB; rw [hb5, HB0.out, HB1.out, HB2.out, HB3.out, HB4.out]; simp))
                              clear hb5
                              go_wp2_with fail
                              go_ret
                              exact ⟨ret_bool (by rw [HBF.out]), HKA.out.then0 HAR6.out⟩
                            | true =>
                              have HB5 := Lib.hid hb5
                              clear hb5
                              have arr := fun (j : Nat) (hj : j < 4) => (show ∃ z, v6.cell? ⟨ab, j, none⟩ = some (.int .i64 z) ∧ z = (P.sz j : Int) from by
                                match j, hj with
                                | 0, _ => exact ⟨_, keep0 HAR6.out (HAR.out.cell 0), rfl⟩
                                | 1, _ => exact ⟨_, keep0 HAR6.out (HAR.out.cell 1), rfl⟩
                                | 2, _ => exact ⟨_, keep0 HAR6.out (HAR.out.cell 2), rfl⟩
                                | 3, _ => exact ⟨_, keep0 HAR6.out (HAR.out.cell 3), rfl⟩)
                              have HARR := Lib.hid arr
                              have hen : (P.I k).en ≤ 4398046511104 := by have := HXL.out.sm; omega
                              clear arr
                              go_wp2_with fail
                              go_loopw [9] (fun i wr => ∃ x : Nat, x ≤ (P.I k).en ∧ i = .int .i64 (x : Int) ∧ (∀ j, j < x → expB P ((P.I k).ek j) ((P.I k).ea j) = true) ∧ Kept S0 v6 wr) (fun i _ => (P.I k).en - (intOf i).toNat)
                              case atStart => exact ⟨0, by omega, rfl, fun j hj => absurd hj (by omega), Kept.refl S0 v6⟩
                              case round =>
                                obtain ⟨x, hxk, rfl, hok, hkw⟩ := hrel
                                have HXK := Lib.hid hok
                                have HXW := Lib.hid hkw
                                have m8 : wr.cell? ⟨nb, 8, none⟩ = some (.slice XA (P.I k).en xc) := keep0 (HW6.out.then0 hkw) (HBX.out.cell 8)
                                clear hok hkw
                                by_cases hxl : x < (P.I k).en
                                · have hkd := HXF.out.kd x hxl
                                  have had := HXF.out.ad x hxl
                                  obtain ⟨kb0, kb1⟩ := HXF.out.kb x hxl
                                  have hxs := ((HQ6.out.k.then0 HXW.out) : Kept S0 _ wr)
                                  obtain ⟨b1, o1, hAe, hc⟩ := (HXL.out.sl.slb.kept hxs (Nat.le_refl _) (fun _ h => h.elim)).sl (by omega)
                                  subst hAe
                                  have q1 : wr.cell? ⟨b1, o1 + x * 3 + 1, none⟩ = some (.int .u8 ((P.I k).ek x)) := by rw [← hkd, Nat.add_assoc]; exact hc _ (by omega)
                                  have q2 : wr.cell? ⟨b1, o1 + x * 3 + 1 + 1, none⟩ = some (.int .i64 ((P.I k).ea x)) := by rw [← had, show o1 + x * 3 + 1 + 1 = o1 + (x * 3 + 2) by omega]; exact hc _ (by omega)
                                  have i0 : (0 : Int) ≤ (x : Int) := by omega
                                  have i1 : (x : Int) < ((P.I k).en : Int) := by omega
                                  have hal : Kept S0 wr (wr.alloc (.cells #[.int .u8 ((P.I k).ek x), .int .i64 ((P.I k).ea x)] 25)) := (Kept.refl S0 wr).alloc _
                                  have HBN := Lib.hid (Blk.new wr 25 #[.int .u8 ((P.I k).ek x), .int .i64 ((P.I k).ea x)])
                                  have HXA := Lib.hid (HXW.out.then0 hal)
                                  clear hkd had hxs hc hal
                                  go_wp2_with fail
                                  generalize hnc : wr.heap.size = nc at *
                                  generalize wr.alloc (.cells #[.int .u8 ((P.I k).ek x), .int .i64 ((P.I k).ea x)] 25) = wn at *
                                  clear hnc q1 q2 m8
                                  cases hk3 : decide ((P.I k).ek x ≤ 3) with
                                  | false =>
                                    have hk4 : decide (3 < (P.I k).ek x) = true := decide_eq_true (by have := of_decide_eq_false hk3; omega)
                                    have HBF := Lib.hid (typed_4 hlt (show instB P (P.I k) = false by unfold instB; rw [rall_false (n := (P.I k).en) hxl (show expB P ((P.I k).ek x) ((P.I k).ea x) = false by unfold expB; rw [hk3]; rfl)]; simp))
                                    clear hk3
                                    have hS : wn.drew.cell? ⟨nc, 0, none⟩ = some (.int .u8 ((P.I k).ek x)) := HBN.out.cell 0
                                    refine wp_region_R (fun w' => w'.cell? ⟨nc, 0, none⟩ = some (.int .u8 ((P.I k).ek x))) [] (by kernel_rfl) ?_
                                    have HXD := Lib.hid HXA.out.drew
                                    generalize wn.drew = wm at *
                                    (first | (refine tkR 0 (v := ?_) rfl hS ⟨by rfl, ?_⟩ ?_; rotate_left; intro w h; (try dsimp only at h); first | (go_simp; done) | (go_simp; with_reducible rfl)) | refine skR 0 rfl (fun _ => hS) (by rfl) ?_); simp only [zq1, zq2, Act.put, zq4, zq5, zq6]
                                    (first | (refine tkR 1 (v := ?_) rfl hS ⟨by rfl, ?_⟩ ?_; rotate_left; intro w h; (try dsimp only at h); first | (go_simp; done) | (go_simp; with_reducible rfl)) | refine skR 1 rfl (fun _ => hS) (by rfl) ?_); simp only [zq1, zq2, zq3, Act.put, zq4, zq5, zq6]
                                    (first | (refine tkR 2 (v := ?_) rfl hS ⟨by rfl, ?_⟩ ?_; rotate_left; intro w h; (try dsimp only at h); first | (go_simp; done) | (go_simp; with_reducible rfl)) | refine skR 2 rfl (fun _ => hS) (by rfl) ?_); simp only [zq1, zq2, zq3, Act.put, zq4, zq5, zq6]
                                    (first | (refine tkR 3 (v := ?_) rfl hS ⟨by rfl, ?_⟩ ?_; rotate_left; intro w h; (try dsimp only at h); first | (go_simp; done) | (go_simp; with_reducible rfl)) | refine skR 3 rfl (fun _ => hS) (by rfl) ?_); simp only [zq1, zq2, zq3, Act.put, zq4, zq5, zq6]
                                    (first | (refine tkR 4 (v := ?_) rfl hS ⟨by rfl, ?_⟩ ?_; rotate_left; intro w h; (try dsimp only at h); first | (go_simp; done) | (go_simp; with_reducible rfl)) | refine skR 4 rfl (fun _ => hS) (by rfl) ?_); simp only [zq1, zq2, zq3, Act.put, zq4, zq5, zq6]
                                    (first | (refine tkR 5 (v := ?_) rfl hS ⟨by rfl, ?_⟩ ?_; rotate_left; intro w h; (try dsimp only at h); first | (go_simp; done) | (go_simp; with_reducible rfl)) | refine skR 5 rfl (fun _ => hS) (by rfl) ?_); simp only [zq1, zq2, zq3, Act.put, zq4, zq5, zq6]
                                    (first | (refine tkR 6 (v := ?_) rfl hS ⟨by rfl, ?_⟩ ?_; rotate_left; intro w h; (try dsimp only at h); first | (go_simp; done) | (go_simp; with_reducible rfl)) | refine skR 6 rfl (fun _ => hS) (by rfl) ?_); simp only [zq1, zq2, zq3, Act.put, zq4, zq5, zq6]
                                    (first | (refine tkR 7 (v := ?_) rfl hS ⟨by rfl, ?_⟩ ?_; rotate_left; intro w h; (try dsimp only at h); first | (go_simp; done) | (go_simp; with_reducible rfl)) | refine skR 7 rfl (fun _ => hS) (by rfl) ?_); simp only [zq1, zq2, zq3, Act.put, zq4, zq5, zq6]
                                    (first | (refine tkR 8 (v := ?_) rfl hS ⟨by rfl, ?_⟩ ?_; rotate_left; intro w h; (try dsimp only at h); first | (go_simp; done) | (go_simp; with_reducible rfl)) | refine skR 8 rfl (fun _ => hS) (by rfl) ?_); simp only [zq1, zq2, zq3, Act.put, zq4, zq5, zq6]
                                    (first | (refine tkR 9 (v := ?_) rfl hS ⟨by rfl, ?_⟩ ?_; rotate_left; intro w h; (try dsimp only at h); first | (go_simp; done) | (go_simp; with_reducible rfl)) | refine skR 9 rfl (fun _ => hS) (by rfl) ?_); simp only [zq1, zq2, zq3, Act.put, zq4, zq5, zq6]
                                    (first | (refine tkR 10 (v := ?_) rfl hS ⟨by rfl, ?_⟩ ?_; rotate_left; intro w h; (try dsimp only at h); first | (go_simp; done) | (go_simp; with_reducible rfl)) | refine skR 10 rfl (fun _ => hS) (by rfl) ?_); simp only [zq1, zq2, zq3, Act.put, zq4, zq5, zq6]
                                    (first | (refine tkR 11 (v := ?_) rfl hS ⟨by rfl, ?_⟩ ?_; rotate_left; intro w h; (try dsimp only at h); first | (go_simp; done) | (go_simp; with_reducible rfl)) | refine skR 11 rfl (fun _ => hS) (by rfl) ?_); simp only [zq1, zq2, zq3, Act.put, zq4, zq5, zq6]
                                    (first | (refine tkR 12 (v := ?_) rfl hS ⟨by rfl, ?_⟩ ?_; rotate_left; intro w h; (try dsimp only at h); first | (go_simp; done) | (go_simp; with_reducible rfl)) | refine skR 12 rfl (fun _ => hS) (by rfl) ?_); simp only [zq1, zq2, zq3, Act.put, zq4, zq5, zq6]
                                    refine wpAnyR_done (by kernel_rfl) ?_ _
                                    clear hS
                                    go_wp2_with fail
                                    go_ret
                                    exact ⟨ret_bool (by rw [HBF.out]), (HKA.out.then0 HAR6.out).then0 HXD.out⟩
                                  | true =>
                                    have hk4 : decide (3 < (P.I k).ek x) = false := decide_eq_false (by have := of_decide_eq_true hk3; omega)
                                    obtain ⟨y, hy⟩ := Int.eq_ofNat_of_zero_le kb0
                                    have hy4 : y < 4 := by have := of_decide_eq_true hk3; omega
                                    obtain ⟨z, hz, hzz⟩ := HARR.out y hy4
                                    have HY := Lib.hid hy
                                    have HZ := Lib.hid hzz
                                    have HK3 := Lib.hid hk3
                                    rw [hy] at hk4
                                    clear hk3 kb0 kb1 hy hzz
                                    have j0 : (0 : Int) ≤ (y : Int) := by omega
                                    have j1 : (y : Int) < 7 := by omega
                                    have hS : wn.drew.cell? ⟨nc, 0, none⟩ = some (.int .u8 (y : Int)) ∧ wn.drew.cell? ⟨nc, 1, none⟩ = some (.int .i64 ((P.I k).ea x)) ∧ wn.drew.cell? ⟨ab, y, none⟩ = some (.int .i64 z) := ⟨by rw [← HY.out]; exact HBN.out.cell 0, HBN.out.cell 1, keep0 HXA.out.drew hz⟩
                                    refine wp_region_R (fun w' => w'.cell? ⟨nc, 0, none⟩ = some (.int .u8 (y : Int)) ∧ w'.cell? ⟨nc, 1, none⟩ = some (.int .i64 ((P.I k).ea x)) ∧ w'.cell? ⟨ab, y, none⟩ = some (.int .i64 z)) [] (by kernel_rfl) ?_
                                    have HXD := Lib.hid HXA.out.drew
                                    clear hz
                                    generalize wn.drew = wm at *
                                    (first | (refine tkR 0 (v := ?_) rfl hS ⟨by rfl, ?_⟩ ?_; rotate_left; intro w h; (try dsimp only at h); first | (go_simp; done) | (go_simp; with_reducible rfl)) | refine skR 0 rfl (fun _ => hS) (by rfl) ?_); simp only [zq1, zq2, Act.put, zq4, zq5, zq6]
                                    (first | (refine tkR 1 (v := ?_) rfl hS ⟨by rfl, ?_⟩ ?_; rotate_left; intro w h; (try dsimp only at h); first | (go_simp; done) | (go_simp; with_reducible rfl)) | refine skR 1 rfl (fun _ => hS) (by rfl) ?_); simp only [zq1, zq2, zq3, Act.put, zq4, zq5, zq6]
                                    (first | (refine tkR 2 (v := ?_) rfl hS ⟨by rfl, ?_⟩ ?_; rotate_left; intro w h; (try dsimp only at h); first | (go_simp; done) | (go_simp; with_reducible rfl)) | refine skR 2 rfl (fun _ => hS) (by rfl) ?_); simp only [zq1, zq2, zq3, Act.put, zq4, zq5, zq6]
                                    (first | (refine tkR 3 (v := ?_) rfl hS ⟨by rfl, ?_⟩ ?_; rotate_left; intro w h; (try dsimp only at h); first | (go_simp; done) | (go_simp; with_reducible rfl)) | refine skR 3 rfl (fun _ => hS) (by rfl) ?_); simp only [zq1, zq2, zq3, Act.put, zq4, zq5, zq6]
                                    (first | (refine tkR 4 (v := ?_) rfl hS ⟨by rfl, ?_⟩ ?_; rotate_left; intro w h; (try dsimp only at h); first | (go_simp; done) | (go_simp; with_reducible rfl)) | refine skR 4 rfl (fun _ => hS) (by rfl) ?_); simp only [zq1, zq2, zq3, Act.put, zq4, zq5, zq6]
                                    (first | (refine tkR 5 (v := ?_) rfl hS ⟨by rfl, ?_⟩ ?_; rotate_left; intro w h; (try dsimp only at h); first | (go_simp; done) | (go_simp; with_reducible rfl)) | refine skR 5 rfl (fun _ => hS) (by rfl) ?_); simp only [zq1, zq2, zq3, Act.put, zq4, zq5, zq6]
                                    (first | (refine tkR 6 (v := ?_) rfl hS ⟨by rfl, ?_⟩ ?_; rotate_left; intro w h; (try dsimp only at h); first | (go_simp; done) | (go_simp; with_reducible rfl)) | refine skR 6 rfl (fun _ => hS) (by rfl) ?_); simp only [zq1, zq2, zq3, Act.put, zq4, zq5, zq6]
                                    (first | (refine tkR 7 (v := ?_) rfl hS ⟨by rfl, ?_⟩ ?_; rotate_left; intro w h; (try dsimp only at h); first | (go_simp; done) | (go_simp; with_reducible rfl)) | refine skR 7 rfl (fun _ => hS) (by rfl) ?_); simp only [zq1, zq2, zq3, Act.put, zq4, zq5, zq6]
                                    (first | (refine tkR 8 (v := ?_) rfl hS ⟨by rfl, ?_⟩ ?_; rotate_left; intro w h; (try dsimp only at h); first | (go_simp; done) | (go_simp; with_reducible rfl)) | refine skR 8 rfl (fun _ => hS) (by rfl) ?_); simp only [zq1, zq2, zq3, Act.put, zq4, zq5, zq6]
                                    (first | (refine tkR 9 (v := ?_) rfl hS ⟨by rfl, ?_⟩ ?_; rotate_left; intro w h; (try dsimp only at h); first | (go_simp; done) | (go_simp; with_reducible rfl)) | refine skR 9 rfl (fun _ => hS) (by rfl) ?_); simp only [zq1, zq2, zq3, Act.put, zq4, zq5, zq6]
                                    refine wpAnyR_one 10 rfl (by kernel_rfl) (fun K hK => ?_)
                                    go_simp
                                    go_at_call 27
                                    refine (there_any ((P.I k).ea x) z wm).mono ?_
                                    rintro e wp ⟨rfl, rfl⟩
                                    refine hK.out _ _ (fun _ => hS) ?_
                                    clear hK K
                                    have HEX := Lib.hid (show expB P ((P.I k).ek x) ((P.I k).ea x) = inA ((P.I k).ea x) z by
                                      unfold expB
                                      rw [HK3.out, HY.out, HZ.out]
                                      simp)
                                    cases hbb : inA ((P.I k).ea x) z with
                                    | false =>
                                      have HBF := Lib.hid (typed_4 hlt (show instB P (P.I k) = false by unfold instB; rw [rall_false (n := (P.I k).en) hxl (HEX.out.trans hbb)]; simp))
                                      clear hbb
                                      (first | (refine tkR 11 (v := ?_) rfl hS ⟨by rfl, ?_⟩ ?_; rotate_left; intro w h; (try dsimp only at h); first | (go_simp; done) | (go_simp; with_reducible rfl)) | refine skR 11 rfl (fun _ => hS) (by rfl) ?_); simp only [zq1, zq2, zq3, Act.put, zq4, zq5, zq6]
                                      (first | (refine tkR 12 (v := ?_) rfl hS ⟨by rfl, ?_⟩ ?_; rotate_left; intro w h; (try dsimp only at h); first | (go_simp; done) | (go_simp; with_reducible rfl)) | refine skR 12 rfl (fun _ => hS) (by rfl) ?_); simp only [zq1, zq2, zq3, Act.put, zq4, zq5, zq6]
                                      refine wpAnyR_done (by kernel_rfl) ?_ _
                                      clear hS
                                      go_wp2_with fail
                                      go_ret
                                      exact ⟨ret_bool (by rw [HBF.out]), (HKA.out.then0 HAR6.out).then0 HXD.out⟩
                                    | true =>
                                      have HBT := Lib.hid (HEX.out.trans hbb)
                                      clear hbb
                                      (first | (refine tkR 11 (v := ?_) rfl hS ⟨by rfl, ?_⟩ ?_; rotate_left; intro w h; (try dsimp only at h); first | (go_simp; done) | (go_simp; with_reducible rfl)) | refine skR 11 rfl (fun _ => hS) (by rfl) ?_); simp only [zq1, zq2, zq3, Act.put, zq4, zq5, zq6]
                                      (first | (refine tkR 12 (v := ?_) rfl hS ⟨by rfl, ?_⟩ ?_; rotate_left; intro w h; (try dsimp only at h); first | (go_simp; done) | (go_simp; with_reducible rfl)) | refine skR 12 rfl (fun _ => hS) (by rfl) ?_); simp only [zq1, zq2, zq3, Act.put, zq4, zq5, zq6]
                                      refine wpAnyR_done (by kernel_rfl) ?_ _
                                      clear hS
                                      go_wp2_with fail
                                      go_roundw
                                      case rel => exact ⟨x + 1, by omega, by go_num, fun j hj => by
                                        rcases Nat.lt_or_ge j x with h | h
                                        · exact HXK.out j h
                                        · obtain rfl : j = x := by omega
                                          exact HBT.out, HXD.out⟩
                                      case measure => simp [intOf]; omega
                                · obtain rfl : x = (P.I k).en := by omega
                                  have HIT := Lib.hid (show instB P (P.I k) = true by unfold instB; rw [HB0.out, HB1.out, HB2.out, HB3.out, HB4.out, HB5.out, rall_true HXK.out]; rfl)
                                  have HKF := Lib.hid (HAR6.out.then0 HXW.out)
                                  go_wp2_with fail
                                  go_roundw
                                  case rel => exact ⟨k + 1, by omega, by go_num, fun j hj => by
                                    rcases Nat.lt_or_ge j k with h | h
                                    · exact HOK.out j h
                                    · obtain rfl : j = k := by omega
                                      exact HIT.out, HKF.out⟩
                                  case measure => simp [intOf]; omega
                · obtain rfl : k = P.ni := by omega
                  have i1 : ¬ ((P.ni : Int) < (P.ni : Int)) := by omega
                  go_wp2_with fail
                  go_ret
                  exact ⟨ret_bool (by rw [typed_t OK1.out OK2.out OK3.out HOK.out]), HKA.out.then0 HKW.out⟩
end
end Go.Proofs.YtlnkdnmeikpckaaGreat
namespace Go.Proofs.YtlnkdnmeikpckaaGreat
open Go.RowKit
set_option maxRecDepth 100000
set_option maxRecDepth 100000 in
set_option maxHeartbeats 3200000 in
theorem typed_law (A : Option Addr) (n c : Nat) (D : Nat → Int) (X : Nat → ActP) (w : World) (hl : ActL w A n D X) (hn : n ≤ 9223372036854775806) :
    Calls Tryz.prog 5 #[.slice A n c] w fun e w' => e = .returned (.bool true) ∧ Kept S0 w w' := by
  have HL := Lib.hid hl
  clear hl
  go_enter Tryz.func5, Tryz.ntmps5
  go_wp2_with fail
  refine (filled_any A n c D X w HL.out hn).mono ?_
  rintro e w1 ⟨sb, rb, rfl, lab, v, u, P, hs, hr, hb, hP⟩
  have HS := Lib.hid hs
  have HR := Lib.hid hr
  have HB := Lib.hid hb
  have HP := Lib.hid hP
  clear hs hr hb hP
  go_wp2_with fail
  refine (typed_any HS.out (HP.out.mono (by omega))).mono ?_
  rintro e w2 ⟨rfl, hk2⟩
  have HR2 := Lib.hid (HR.out.kept0 hk2)
  have HK2 := Lib.hid (HB.out.k.then0 hk2)
  clear hk2
  go_wp2_with fail
  refine (rtyped_any HR2.out (HP.out.mono (by omega))).mono ?_
  rintro e w3 ⟨rfl, hk3⟩
  have HK3 := Lib.hid (HK2.out.then0 hk3)
  clear hk3
  go_wp2_with fail
  refine (lives_any _).mono ?_
  rintro e w4 ⟨rfl, hk4⟩
  have HK4 := Lib.hid (HK3.out.then0 hk4)
  clear hk4
  go_wp2_with fail
  go_ret
  exact ⟨rfl, HK4.out⟩
end Go.Proofs.YtlnkdnmeikpckaaGreat
namespace Go.Proofs.YtlnkdnmeikpckaaGreat
open Go.ChangeShapes Go.WideShapes Go.ChangeAt Go.RowKit Go.Joins
set_option maxRecDepth 100000
theorem Tryz.own : ownKnob Tryz.prog.godebug = none := by kernel_rfl
theorem Tryz.laidOut : laidOutB Tryz.prog = true := by kernel_rfl
end Go.Proofs.YtlnkdnmeikpckaaGreat
namespace Go.Proofs.YtlnkdnmeikpckaaGreat
open Go.ChangeShapes Go.WideShapes Go.ChangeAt Go.RowKit Go.Joins
set_option maxRecDepth 100000
set_option maxRecDepth 100000 in
set_option maxHeartbeats 1600000 in
theorem storeTyped_lifted (os : Os) (started : os.Started) (H : Type) (enc : TypeId × Value → H) :
    ReturnsInHanded {} Tryz.checked os 5 .any (Rows.storeTypedSpec.pre6 enc Tryz.prog Tryz.f5 Rows.storeTypedRow.domain false) (Rows.storeTypedSpec.post enc Tryz.prog Tryz.f5 false true false false) := by
  refine returnsInHanded_of_change_sized (C := Tryz.checked) Tryz.own started (by kernel_rfl) Tryz.func5
    (ChangeSpec.witness6 (enc := enc) (C := Tryz.checked) false ⟨#[], #[.slice none 0 0], []⟩ 8 (by kernel_rfl) (by kernel_rfl) (by kernel_rfl) (by kernel_rfl)) ?_
  intro W base args ds gs before hval0 hW hcnd hsz0 _
  have hsz : (DataW.weightsEach Tryz.prog (Tryz.f5.params.toList ++ Rows.storeTypedSpec.plain.varTypes Tryz.prog) (ds ++ gs)).all (· ≤ reachBytes) = true := hsz0
  clear hsz0
  have hval : ∀ (j : Nat) t v, Tryz.f5.params[j]? = some t → args[j]? = some v → Value.okWide Tryz.prog W .any base t v := hval0
  have hW' := hW
  obtain ⟨p, q, hA0, hV, rfl, hfz, hnd⟩ := hW
  have hA : DataW.TrodAll enc Tryz.prog W 0 (fun _ => true) true Tryz.f5.params.toList args.toList ds p := hA0
  rw [Tryz.params5] at hA hval hsz
  have hrd := fun j t v => rd_params (ts2 := Rows.storeTypedSpec.plain.varTypes Tryz.prog) (gs := gs) hA j t v
  have hws : ∀ q ∈ DataW.weightsEach Tryz.prog (_ ++ Rows.storeTypedSpec.plain.varTypes Tryz.prog) (ds ++ gs), q ≤ reachBytes := fun q hq => of_decide_eq_true (List.all_eq_true.1 hsz q hq)
  obtain ⟨v0, vs0, d0, ds0, p0, q0, hargs0, rfl, rfl, h0, r0⟩ := trodAll_cons hA
  obtain ⟨hargsN, rfl, rfl⟩ := trodAll_nil r0
  obtain rfl : args = #[v0] := by
    apply Array.toList_inj.1
    rw [hargs0, hargsN]
  obtain ⟨rfl, rfl⟩ := trodVars_none hV
  have g0 := hrd 0 22 v0 rfl rfl
  obtain ⟨l_A, l_n, l_c, hv0⟩ := okWide_slice Tryz.underlying22 (hval 0 22 v0 rfl rfl)
  subst hv0
  obtain ⟨D, X, hacts, hlen⟩ := actl_of_rd hws g0
  refine (typed_law l_A l_n l_c D X W hacts hlen).mono fun e W' ⟨he, hk⟩ => ?_
  subst he
  refine ⟨_, rfl, post_law Tryz.laidOut ?_ hW' rfl Tryz.underlying4 (by kernel_rfl) rfl hk.below0⟩
  rw [Tryz.params5]
  intro t ht
  simp at ht
  rcases ht with rfl <;> exact ⟨by kernel_rfl, of_decide_eq_true (by kernel_rfl)⟩
theorem storeTyped_holds : Rows.StoreTypedSaid :=
  OpenClaim.holds_of_wide 5 Tryz.f5 rfl rfl rfl rfl rfl rfl rfl ⟨rfl, rfl, rfl, rfl, rfl⟩ rfl rfl rfl rfl rfl (by kernel_rfl) Tryz.func5 (by kernel_rfl)
    (of_decide_eq_true (by kernel_rfl)) (by unfold Func.isWrapper; rw [if_neg (of_decide_eq_false (by kernel_rfl))]; exact ⟨rfl, rfl⟩)
    (fun os started H enc _ => storeTyped_lifted os started H enc)
end Go.Proofs.YtlnkdnmeikpckaaGreat
