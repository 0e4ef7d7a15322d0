/- What the proofs lean on, part 9 of St. No condition. -/
import Derived.Test.YtlnkdnmeikpckaaGreatMSta
import Derived.Test.YtlnkdnmeikpckaaGreatMStb
import Derived.Test.YtlnkdnmeikpckaaGreatMSte
import Derived.Test.YtlnkdnmeikpckaaGreatMStf
import Derived.Test.YtlnkdnmeikpckaaGreatMStg
import Derived.Test.YtlnkdnmeikpckaaGreatMSth
import Derived.Deep.DeepCutAuto
import Derived.Deep.CutBlock
namespace Go.Proofs.YtlnkdnmeikpckaaGreat
open Go.RowKit
set_option maxRecDepth 100000
/-- What AddInst has done. -/
structure AddedI (w w' : World) (sb B n : Nat) (fl tl ml gl el dl il : Value) (F : Nat → Value) (a : InA) : Prop where
  ex : ∃ ib A1 n1 c1 A2 n2 c2 lv', Blk w' sb 132 (stCells fl tl ml gl el dl lv') ∧ Own w' B 95 1 AnyV lv' (n + 1) (after n F (ecell #[.pointer (some ⟨ib, 0, none⟩)])) ∧ InSt w' w.heap.size ib a (.slice A1 n1 c1) (.slice A2 n2 c2) ∧ (lv'.ownBlock = il.ownBlock ∨ ∃ g, lv'.ownBlock = some g ∧ w.heap.size ≤ g)
  kept : Kept (ST sb il) w w'
theorem Tryz.infoFT : (Tryz.prog.info? 38).map (fun i => (i.size, i.bytes, i.zero.map (fun z => z.cells.size))) = some (2, 48, some 2) := by kernel_rfl
theorem Tryz.infoCOMP : (Tryz.prog.info? 223).map (fun i => (i.size, i.bytes, i.zero.map (fun z => z.cells.size))) = some (3, 56, some 3) := by kernel_rfl
theorem InSt.mono {w : World} {base b ib : Nat} {a : InA} {tv cv : Value} (h : InSt w base ib a tv cv) (hb : b ≤ base) : InSt w b ib a tv cv := by
  obtain ⟨y0, y1, y2, y3, y4, y5, ye, c0, c1, c2, c3, c4, c5, ce, hb', o0, o1, o2, o3, o4, o5, oe⟩ := h.ex
  exact ⟨Nat.le_trans hb h.lo, y0, y1, y2, y3, y4, y5, ye, c0, c1, c2, c3, c4, c5, ce, hb', o0.mono hb, o1.mono hb, o2.mono hb, o3.mono hb, o4.mono hb, o5.mono hb, oe.mono hb⟩
section
variable {w : World} {sb B n : Nat} {fl tl ml gl el dl il : Value} {F : Nat → Value}
set_option maxRecDepth 100000 in
set_option maxHeartbeats 40000000 in
theorem addinst_any (a : InA) (hb : Blk w sb 132 (stCells fl tl ml gl el dl il)) (hown : Own w B 95 1 AnyV il n F) (hn : n < 65536) (hB : B ≤ w.heap.size) (hi : InOk w a) :
    Calls Tryz.prog 71 #[.pointer (some ⟨sb, 0, none⟩), .agg #[.slice a.ta a.tn a.tc, .slice (a.la 0) (a.ln 0) (a.lc 0), .slice (a.la 1) (a.ln 1) (a.lc 1), .slice (a.la 2) (a.ln 2) (a.lc 2), .slice (a.la 3) (a.ln 3) (a.lc 3), .slice (a.la 4) (a.ln 4) (a.lc 4), .slice (a.la 5) (a.ln 5) (a.lc 5), .slice a.ca a.cn a.cc, .slice a.ea a.en a.ec]] w fun e w' => e = .returned (.tuple #[.int .i64 (n : Int), .int .i64 0]) ∧ AddedI w w' sb B n fl tl ml gl el dl il F a := by
  obtain ⟨lA, lc, hlv, _, _, _⟩ := hown.out
  subst hlv
  have hka : Kept S0 w (w.alloc (.cells #[.slice a.ta a.tn a.tc, .slice (a.la 0) (a.ln 0) (a.lc 0), .slice (a.la 1) (a.ln 1) (a.lc 1), .slice (a.la 2) (a.ln 2) (a.lc 2), .slice (a.la 3) (a.ln 3) (a.lc 3), .slice (a.la 4) (a.ln 4) (a.lc 4), .slice (a.la 5) (a.ln 5) (a.lc 5), .slice a.ca a.cn a.cc, .slice a.ea a.en a.ec] 77)) := (Kept.refl S0 w).alloc _
  have HB := Lib.hid (hka.blk hb (fun x => x))
  have HO := Lib.hid (hown.kept hka (fun _ _ x => x))
  have HX := Lib.hid (Blk.new w 77 #[.slice a.ta a.tn a.tc, .slice (a.la 0) (a.ln 0) (a.lc 0), .slice (a.la 1) (a.ln 1) (a.lc 1), .slice (a.la 2) (a.ln 2) (a.lc 2), .slice (a.la 3) (a.ln 3) (a.lc 3), .slice (a.la 4) (a.ln 4) (a.lc 4), .slice (a.la 5) (a.ln 5) (a.lc 5), .slice a.ca a.cn a.cc, .slice a.ea a.en a.ec])
  have HI := Lib.hid (hi.kept hka)
  have HK := Lib.hid hka
  have HBW := Lib.hid hB
  have HXS := Lib.hid hka.size
  have HONE := Lib.hid (show ∀ j, j < a.en * 3 → (a.EF j).oneCell' = true from fun j hj => by
    have h := hi.exf
    rcases (show j % 3 = 0 ∨ j % 3 = 1 ∨ j % 3 = 2 by omega) with e | e | e
    · obtain ⟨s, hs⟩ := h.nm (j / 3) (by omega)
      rw [show j = j / 3 * 3 by omega, hs]; rfl
    · rw [show j = j / 3 * 3 + 1 by omega, h.kd (j / 3) (by omega)]; rfl
    · rw [show j = j / 3 * 3 + 2 by omega, h.ad (j / 3) (by omega)]; rfl)
  clear hb hown hka hi hB
  go_enter Tryz.func71, Tryz.ntmps71
  go_wp2_with fail
  generalize hwa : w.alloc (.cells #[.slice a.ta a.tn a.tc, .slice (a.la 0) (a.ln 0) (a.lc 0), .slice (a.la 1) (a.ln 1) (a.lc 1), .slice (a.la 2) (a.ln 2) (a.lc 2), .slice (a.la 3) (a.ln 3) (a.lc 3), .slice (a.la 4) (a.ln 4) (a.lc 4), .slice (a.la 5) (a.ln 5) (a.lc 5), .slice a.ca a.cn a.cc, .slice a.ea a.en a.ec] 77) = wa at *
  generalize hbx : w.heap.size = bx at *
  clear hwa
  have c0 : wa.cell? ⟨sb, 0, none⟩ = some (.bool true) := HB.out.cell 0
  refine (off_made _ _ c0).mono ?_
  rintro e w1 ⟨rfl, rfl⟩
  clear c0
  go_upto_region 3 with (fail)
  go_cut [6] (fun t6 wx => ∃ ib, t6 = .pointer (some ⟨ib, 0, none⟩) ∧ InSt wx wa.heap.size ib a (.slice none 0 0) (.slice none 0 0) ∧ Kept S0 wa wx)
  case first =>
    have hS : wa.drew.cell? ⟨bx, 1, none⟩ = some (.slice (a.la 0) (a.ln 0) (a.lc 0)) ∧ wa.drew.cell? ⟨bx, 2, none⟩ = some (.slice (a.la 1) (a.ln 1) (a.lc 1)) ∧ wa.drew.cell? ⟨bx, 3, none⟩ = some (.slice (a.la 2) (a.ln 2) (a.lc 2)) ∧ wa.drew.cell? ⟨bx, 4, none⟩ = some (.slice (a.la 3) (a.ln 3) (a.lc 3)) ∧ wa.drew.cell? ⟨bx, 5, none⟩ = some (.slice (a.la 4) (a.ln 4) (a.lc 4)) ∧ wa.drew.cell? ⟨bx, 6, none⟩ = some (.slice (a.la 5) (a.ln 5) (a.lc 5)) ∧ wa.drew.cell? ⟨bx, 8, none⟩ = some (.slice a.ea a.en a.ec) := ⟨HX.out.cell 1, HX.out.cell 2, HX.out.cell 3, HX.out.cell 4, HX.out.cell 5, HX.out.cell 6, HX.out.cell 8⟩
    refine wp_region_R (fun w' => w'.cell? ⟨bx, 1, none⟩ = some (.slice (a.la 0) (a.ln 0) (a.lc 0)) ∧ w'.cell? ⟨bx, 2, none⟩ = some (.slice (a.la 1) (a.ln 1) (a.lc 1)) ∧ w'.cell? ⟨bx, 3, none⟩ = some (.slice (a.la 2) (a.ln 2) (a.lc 2)) ∧ w'.cell? ⟨bx, 4, none⟩ = some (.slice (a.la 3) (a.ln 3) (a.lc 3)) ∧ w'.cell? ⟨bx, 5, none⟩ = some (.slice (a.la 4) (a.ln 4) (a.lc 4)) ∧ w'.cell? ⟨bx, 6, none⟩ = some (.slice (a.la 5) (a.ln 5) (a.lc 5)) ∧ w'.cell? ⟨bx, 8, none⟩ = some (.slice a.ea a.en a.ec)) [23] (by kernel_rfl) ?_
    have HK0 := Lib.hid ((Kept.refl S0 wa).drew)
    have HIN := Lib.hid (HI.out.kept HK0.out)
    have HW0 := Lib.hid (show wa.heap.size ≤ wa.drew.heap.size from (Kept.refl S0 wa).drew.size)
    have HZ := Lib.hid (Kept.refl S0 wa.drew)
    generalize hw0 : wa.drew = w0 at *
    clear hw0
    (first | (refine tkR 0 (v := ?_) rfl hS ⟨by rfl, ?_⟩ ?_; rotate_left; intro w h; (try dsimp only at h); first | (go_simp; done) | (go_simp; with_reducible rfl)) | refine skR 0 rfl (fun _ => hS) (by rfl) ?_); simp only [zq1, zq2, Act.put, zq4, zq5, zq6]
    (first | (refine tkR 1 (v := ?_) rfl hS ⟨by rfl, ?_⟩ ?_; rotate_left; intro w h; (try dsimp only at h); first | (go_simp; done) | (go_simp; with_reducible rfl)) | refine skR 1 rfl (fun _ => hS) (by rfl) ?_); simp only [zq1, zq2, zq3, Act.put, zq4, zq5, zq6]
    (first | (refine tkR 3 (v := ?_) rfl hS ⟨by rfl, ?_⟩ ?_; rotate_left; intro w h; (try dsimp only at h); first | (go_simp; done) | (go_simp; with_reducible rfl)) | refine skR 3 rfl (fun _ => hS) (by rfl) ?_); simp only [zq1, zq2, zq3, Act.put, zq4, zq5, zq6]
    (first | (refine tkR 4 (v := ?_) rfl hS ⟨by rfl, ?_⟩ ?_; rotate_left; intro w h; (try dsimp only at h); first | (go_simp; done) | (go_simp; with_reducible rfl)) | refine skR 4 rfl (fun _ => hS) (by rfl) ?_); simp only [zq1, zq2, zq3, Act.put, zq4, zq5, zq6]
    (first | (refine tkR 6 (v := ?_) rfl hS ⟨by rfl, ?_⟩ ?_; rotate_left; intro w h; (try dsimp only at h); first | (go_simp; done) | (go_simp; with_reducible rfl)) | refine skR 6 rfl (fun _ => hS) (by rfl) ?_); simp only [zq1, zq2, zq3, Act.put, zq4, zq5, zq6]
    (first | (refine tkR 7 (v := ?_) rfl hS ⟨by rfl, ?_⟩ ?_; rotate_left; intro w h; (try dsimp only at h); first | (go_simp; done) | (go_simp; with_reducible rfl)) | refine skR 7 rfl (fun _ => hS) (by rfl) ?_); simp only [zq1, zq2, zq3, Act.put, zq4, zq5, zq6]
    (first | (refine tkR 9 (v := ?_) rfl hS ⟨by rfl, ?_⟩ ?_; rotate_left; intro w h; (try dsimp only at h); first | (go_simp; done) | (go_simp; with_reducible rfl)) | refine skR 9 rfl (fun _ => hS) (by rfl) ?_); simp only [zq1, zq2, zq3, Act.put, zq4, zq5, zq6]
    (first | (refine tkR 10 (v := ?_) rfl hS ⟨by rfl, ?_⟩ ?_; rotate_left; intro w h; (try dsimp only at h); first | (go_simp; done) | (go_simp; with_reducible rfl)) | refine skR 10 rfl (fun _ => hS) (by rfl) ?_); simp only [zq1, zq2, zq3, Act.put, zq4, zq5, zq6]
    (first | (refine tkR 12 (v := ?_) rfl hS ⟨by rfl, ?_⟩ ?_; rotate_left; intro w h; (try dsimp only at h); first | (go_simp; done) | (go_simp; with_reducible rfl)) | refine skR 12 rfl (fun _ => hS) (by rfl) ?_); simp only [zq1, zq2, zq3, Act.put, zq4, zq5, zq6]
    (first | (refine tkR 13 (v := ?_) rfl hS ⟨by rfl, ?_⟩ ?_; rotate_left; intro w h; (try dsimp only at h); first | (go_simp; done) | (go_simp; with_reducible rfl)) | refine skR 13 rfl (fun _ => hS) (by rfl) ?_); simp only [zq1, zq2, zq3, Act.put, zq4, zq5, zq6]
    (first | (refine tkR 15 (v := ?_) rfl hS ⟨by rfl, ?_⟩ ?_; rotate_left; intro w h; (try dsimp only at h); first | (go_simp; done) | (go_simp; with_reducible rfl)) | refine skR 15 rfl (fun _ => hS) (by rfl) ?_); simp only [zq1, zq2, zq3, Act.put, zq4, zq5, zq6]
    (first | (refine tkR 16 (v := ?_) rfl hS ⟨by rfl, ?_⟩ ?_; rotate_left; intro w h; (try dsimp only at h); first | (go_simp; done) | (go_simp; with_reducible rfl)) | refine skR 16 rfl (fun _ => hS) (by rfl) ?_); simp only [zq1, zq2, zq3, Act.put, zq4, zq5, zq6]
    (first | (refine tkR 18 (v := ?_) rfl hS ⟨by rfl, ?_⟩ ?_; rotate_left; intro w h; (try dsimp only at h); first | (go_simp; done) | (go_simp; with_reducible rfl)) | refine skR 18 rfl (fun _ => hS) (by rfl) ?_); simp only [zq1, zq2, zq3, Act.put, zq4, zq5, zq6]
    (first | (refine tkR 19 (v := ?_) rfl hS ⟨by rfl, ?_⟩ ?_; rotate_left; intro w h; (try dsimp only at h); first | (go_simp; done) | (go_simp; with_reducible rfl)) | refine skR 19 rfl (fun _ => hS) (by rfl) ?_); simp only [zq1, zq2, zq3, Act.put, zq4, zq5, zq6]
    refine wpAnyR_two 2 22 rfl rfl (by kernel_rfl) (fun K hK => ?_) (fun K hK => ?_)
    · go_simp
      go_at_call 103
      refine (clone_ints (a.la 0) (a.ln 0) (a.lc 0) (intV (a.lf 0)) w0 ((HIN.out.kept HZ.out).l 0 (by omega)) (fun _ _ => rfl)).mono ?_
      rintro e u1 ⟨y0, yc0, rfl, ho, hq⟩
      have HK1 := Lib.hid (HZ.out.then0 hq)
      have HO1_0 := Lib.hid (ho.mono HW0.out)
      have HW1 := Lib.hid (Nat.le_trans HW0.out hq.size)
      have hS1 : u1.cell? ⟨bx, 1, none⟩ = some (.slice (a.la 0) (a.ln 0) (a.lc 0)) ∧ u1.cell? ⟨bx, 2, none⟩ = some (.slice (a.la 1) (a.ln 1) (a.lc 1)) ∧ u1.cell? ⟨bx, 3, none⟩ = some (.slice (a.la 2) (a.ln 2) (a.lc 2)) ∧ u1.cell? ⟨bx, 4, none⟩ = some (.slice (a.la 3) (a.ln 3) (a.lc 3)) ∧ u1.cell? ⟨bx, 5, none⟩ = some (.slice (a.la 4) (a.ln 4) (a.lc 4)) ∧ u1.cell? ⟨bx, 6, none⟩ = some (.slice (a.la 5) (a.ln 5) (a.lc 5)) ∧ u1.cell? ⟨bx, 8, none⟩ = some (.slice a.ea a.en a.ec) := ⟨keep0 hq hS.1, keep0 hq hS.2.1, keep0 hq hS.2.2.1, keep0 hq hS.2.2.2.1, keep0 hq hS.2.2.2.2.1, keep0 hq hS.2.2.2.2.2.1, keep0 hq hS.2.2.2.2.2.2⟩
      refine hK.out _ _ (fun _ => hS1) ?_
      clear hK K hS hq ho
      refine wpAnyR_two 5 22 rfl rfl (by kernel_rfl) (fun K hK => ?_) (fun K hK => ?_)
      · go_simp
        go_at_call 103
        refine (clone_ints (a.la 1) (a.ln 1) (a.lc 1) (intV (a.lf 1)) u1 ((HIN.out.kept HK1.out).l 1 (by omega)) (fun _ _ => rfl)).mono ?_
        rintro e u2 ⟨y1, yc1, rfl, ho, hq⟩
        have HK2 := Lib.hid (HK1.out.then0 hq)
        have HO2_0 := Lib.hid (HO1_0.out.kept hq (fun _ _ x => x))
        have HO2_1 := Lib.hid (ho.mono HW1.out)
        have HW2 := Lib.hid (Nat.le_trans HW1.out hq.size)
        have hS2 : u2.cell? ⟨bx, 1, none⟩ = some (.slice (a.la 0) (a.ln 0) (a.lc 0)) ∧ u2.cell? ⟨bx, 2, none⟩ = some (.slice (a.la 1) (a.ln 1) (a.lc 1)) ∧ u2.cell? ⟨bx, 3, none⟩ = some (.slice (a.la 2) (a.ln 2) (a.lc 2)) ∧ u2.cell? ⟨bx, 4, none⟩ = some (.slice (a.la 3) (a.ln 3) (a.lc 3)) ∧ u2.cell? ⟨bx, 5, none⟩ = some (.slice (a.la 4) (a.ln 4) (a.lc 4)) ∧ u2.cell? ⟨bx, 6, none⟩ = some (.slice (a.la 5) (a.ln 5) (a.lc 5)) ∧ u2.cell? ⟨bx, 8, none⟩ = some (.slice a.ea a.en a.ec) := ⟨keep0 hq hS1.1, keep0 hq hS1.2.1, keep0 hq hS1.2.2.1, keep0 hq hS1.2.2.2.1, keep0 hq hS1.2.2.2.2.1, keep0 hq hS1.2.2.2.2.2.1, keep0 hq hS1.2.2.2.2.2.2⟩
        refine hK.out _ _ (fun _ => hS2) ?_
        clear hK K hS1 hq ho
        refine wpAnyR_two 8 22 rfl rfl (by kernel_rfl) (fun K hK => ?_) (fun K hK => ?_)
        · go_simp
          go_at_call 103
          refine (clone_ints (a.la 2) (a.ln 2) (a.lc 2) (intV (a.lf 2)) u2 ((HIN.out.kept HK2.out).l 2 (by omega)) (fun _ _ => rfl)).mono ?_
          rintro e u3 ⟨y2, yc2, rfl, ho, hq⟩
          have HK3 := Lib.hid (HK2.out.then0 hq)
          have HO3_0 := Lib.hid (HO2_0.out.kept hq (fun _ _ x => x))
          have HO3_1 := Lib.hid (HO2_1.out.kept hq (fun _ _ x => x))
          have HO3_2 := Lib.hid (ho.mono HW2.out)
          have HW3 := Lib.hid (Nat.le_trans HW2.out hq.size)
          have hS3 : u3.cell? ⟨bx, 1, none⟩ = some (.slice (a.la 0) (a.ln 0) (a.lc 0)) ∧ u3.cell? ⟨bx, 2, none⟩ = some (.slice (a.la 1) (a.ln 1) (a.lc 1)) ∧ u3.cell? ⟨bx, 3, none⟩ = some (.slice (a.la 2) (a.ln 2) (a.lc 2)) ∧ u3.cell? ⟨bx, 4, none⟩ = some (.slice (a.la 3) (a.ln 3) (a.lc 3)) ∧ u3.cell? ⟨bx, 5, none⟩ = some (.slice (a.la 4) (a.ln 4) (a.lc 4)) ∧ u3.cell? ⟨bx, 6, none⟩ = some (.slice (a.la 5) (a.ln 5) (a.lc 5)) ∧ u3.cell? ⟨bx, 8, none⟩ = some (.slice a.ea a.en a.ec) := ⟨keep0 hq hS2.1, keep0 hq hS2.2.1, keep0 hq hS2.2.2.1, keep0 hq hS2.2.2.2.1, keep0 hq hS2.2.2.2.2.1, keep0 hq hS2.2.2.2.2.2.1, keep0 hq hS2.2.2.2.2.2.2⟩
          refine hK.out _ _ (fun _ => hS3) ?_
          clear hK K hS2 hq ho
          refine wpAnyR_two 11 22 rfl rfl (by kernel_rfl) (fun K hK => ?_) (fun K hK => ?_)
          · go_simp
            go_at_call 103
            refine (clone_ints (a.la 3) (a.ln 3) (a.lc 3) (intV (a.lf 3)) u3 ((HIN.out.kept HK3.out).l 3 (by omega)) (fun _ _ => rfl)).mono ?_
            rintro e u4 ⟨y3, yc3, rfl, ho, hq⟩
            have HK4 := Lib.hid (HK3.out.then0 hq)
            have HO4_0 := Lib.hid (HO3_0.out.kept hq (fun _ _ x => x))
            have HO4_1 := Lib.hid (HO3_1.out.kept hq (fun _ _ x => x))
            have HO4_2 := Lib.hid (HO3_2.out.kept hq (fun _ _ x => x))
            have HO4_3 := Lib.hid (ho.mono HW3.out)
            have HW4 := Lib.hid (Nat.le_trans HW3.out hq.size)
            have hS4 : u4.cell? ⟨bx, 1, none⟩ = some (.slice (a.la 0) (a.ln 0) (a.lc 0)) ∧ u4.cell? ⟨bx, 2, none⟩ = some (.slice (a.la 1) (a.ln 1) (a.lc 1)) ∧ u4.cell? ⟨bx, 3, none⟩ = some (.slice (a.la 2) (a.ln 2) (a.lc 2)) ∧ u4.cell? ⟨bx, 4, none⟩ = some (.slice (a.la 3) (a.ln 3) (a.lc 3)) ∧ u4.cell? ⟨bx, 5, none⟩ = some (.slice (a.la 4) (a.ln 4) (a.lc 4)) ∧ u4.cell? ⟨bx, 6, none⟩ = some (.slice (a.la 5) (a.ln 5) (a.lc 5)) ∧ u4.cell? ⟨bx, 8, none⟩ = some (.slice a.ea a.en a.ec) := ⟨keep0 hq hS3.1, keep0 hq hS3.2.1, keep0 hq hS3.2.2.1, keep0 hq hS3.2.2.2.1, keep0 hq hS3.2.2.2.2.1, keep0 hq hS3.2.2.2.2.2.1, keep0 hq hS3.2.2.2.2.2.2⟩
            refine hK.out _ _ (fun _ => hS4) ?_
            clear hK K hS3 hq ho
            refine wpAnyR_two 14 22 rfl rfl (by kernel_rfl) (fun K hK => ?_) (fun K hK => ?_)
            · go_simp
              go_at_call 103
              refine (clone_ints (a.la 4) (a.ln 4) (a.lc 4) (intV (a.lf 4)) u4 ((HIN.out.kept HK4.out).l 4 (by omega)) (fun _ _ => rfl)).mono ?_
              rintro e u5 ⟨y4, yc4, rfl, ho, hq⟩
              have HK5 := Lib.hid (HK4.out.then0 hq)
              have HO5_0 := Lib.hid (HO4_0.out.kept hq (fun _ _ x => x))
              have HO5_1 := Lib.hid (HO4_1.out.kept hq (fun _ _ x => x))
              have HO5_2 := Lib.hid (HO4_2.out.kept hq (fun _ _ x => x))
              have HO5_3 := Lib.hid (HO4_3.out.kept hq (fun _ _ x => x))
              have HO5_4 := Lib.hid (ho.mono HW4.out)
              have HW5 := Lib.hid (Nat.le_trans HW4.out hq.size)
              have hS5 : u5.cell? ⟨bx, 1, none⟩ = some (.slice (a.la 0) (a.ln 0) (a.lc 0)) ∧ u5.cell? ⟨bx, 2, none⟩ = some (.slice (a.la 1) (a.ln 1) (a.lc 1)) ∧ u5.cell? ⟨bx, 3, none⟩ = some (.slice (a.la 2) (a.ln 2) (a.lc 2)) ∧ u5.cell? ⟨bx, 4, none⟩ = some (.slice (a.la 3) (a.ln 3) (a.lc 3)) ∧ u5.cell? ⟨bx, 5, none⟩ = some (.slice (a.la 4) (a.ln 4) (a.lc 4)) ∧ u5.cell? ⟨bx, 6, none⟩ = some (.slice (a.la 5) (a.ln 5) (a.lc 5)) ∧ u5.cell? ⟨bx, 8, none⟩ = some (.slice a.ea a.en a.ec) := ⟨keep0 hq hS4.1, keep0 hq hS4.2.1, keep0 hq hS4.2.2.1, keep0 hq hS4.2.2.2.1, keep0 hq hS4.2.2.2.2.1, keep0 hq hS4.2.2.2.2.2.1, keep0 hq hS4.2.2.2.2.2.2⟩
              refine hK.out _ _ (fun _ => hS5) ?_
              clear hK K hS4 hq ho
              refine wpAnyR_two 17 22 rfl rfl (by kernel_rfl) (fun K hK => ?_) (fun K hK => ?_)
              · go_simp
                go_at_call 103
                refine (clone_ints (a.la 5) (a.ln 5) (a.lc 5) (intV (a.lf 5)) u5 ((HIN.out.kept HK5.out).l 5 (by omega)) (fun _ _ => rfl)).mono ?_
                rintro e u6 ⟨y5, yc5, rfl, ho, hq⟩
                have HK6 := Lib.hid (HK5.out.then0 hq)
                have HO6_0 := Lib.hid (HO5_0.out.kept hq (fun _ _ x => x))
                have HO6_1 := Lib.hid (HO5_1.out.kept hq (fun _ _ x => x))
                have HO6_2 := Lib.hid (HO5_2.out.kept hq (fun _ _ x => x))
                have HO6_3 := Lib.hid (HO5_3.out.kept hq (fun _ _ x => x))
                have HO6_4 := Lib.hid (HO5_4.out.kept hq (fun _ _ x => x))
                have HO6_5 := Lib.hid (ho.mono HW5.out)
                have HW6 := Lib.hid (Nat.le_trans HW5.out hq.size)
                have hS6 : u6.cell? ⟨bx, 1, none⟩ = some (.slice (a.la 0) (a.ln 0) (a.lc 0)) ∧ u6.cell? ⟨bx, 2, none⟩ = some (.slice (a.la 1) (a.ln 1) (a.lc 1)) ∧ u6.cell? ⟨bx, 3, none⟩ = some (.slice (a.la 2) (a.ln 2) (a.lc 2)) ∧ u6.cell? ⟨bx, 4, none⟩ = some (.slice (a.la 3) (a.ln 3) (a.lc 3)) ∧ u6.cell? ⟨bx, 5, none⟩ = some (.slice (a.la 4) (a.ln 4) (a.lc 4)) ∧ u6.cell? ⟨bx, 6, none⟩ = some (.slice (a.la 5) (a.ln 5) (a.lc 5)) ∧ u6.cell? ⟨bx, 8, none⟩ = some (.slice a.ea a.en a.ec) := ⟨keep0 hq hS5.1, keep0 hq hS5.2.1, keep0 hq hS5.2.2.1, keep0 hq hS5.2.2.2.1, keep0 hq hS5.2.2.2.2.1, keep0 hq hS5.2.2.2.2.2.1, keep0 hq hS5.2.2.2.2.2.2⟩
                refine hK.out _ _ (fun _ => hS6) ?_
                clear hK K hS5 hq ho
                refine wpAnyR_two 20 22 rfl rfl (by kernel_rfl) (fun K hK => ?_) (fun K hK => ?_)
                · go_simp
                  go_at_call 104
                  refine (clone_nameds a.ea a.en a.ec a.EF u6 (HIN.out.kept HK6.out).ex HONE.out).mono ?_
                  rintro e u7 ⟨y6, yc6, rfl, ho, hq⟩
                  have HK7 := Lib.hid (HK6.out.then0 hq)
                  have HO7_0 := Lib.hid (HO6_0.out.kept hq (fun _ _ x => x))
                  have HO7_1 := Lib.hid (HO6_1.out.kept hq (fun _ _ x => x))
                  have HO7_2 := Lib.hid (HO6_2.out.kept hq (fun _ _ x => x))
                  have HO7_3 := Lib.hid (HO6_3.out.kept hq (fun _ _ x => x))
                  have HO7_4 := Lib.hid (HO6_4.out.kept hq (fun _ _ x => x))
                  have HO7_5 := Lib.hid (HO6_5.out.kept hq (fun _ _ x => x))
                  have HO7_6 := Lib.hid (ho.mono HW6.out)
                  have HW7 := Lib.hid (Nat.le_trans HW6.out hq.size)
                  have hS7 : u7.cell? ⟨bx, 1, none⟩ = some (.slice (a.la 0) (a.ln 0) (a.lc 0)) ∧ u7.cell? ⟨bx, 2, none⟩ = some (.slice (a.la 1) (a.ln 1) (a.lc 1)) ∧ u7.cell? ⟨bx, 3, none⟩ = some (.slice (a.la 2) (a.ln 2) (a.lc 2)) ∧ u7.cell? ⟨bx, 4, none⟩ = some (.slice (a.la 3) (a.ln 3) (a.lc 3)) ∧ u7.cell? ⟨bx, 5, none⟩ = some (.slice (a.la 4) (a.ln 4) (a.lc 4)) ∧ u7.cell? ⟨bx, 6, none⟩ = some (.slice (a.la 5) (a.ln 5) (a.lc 5)) ∧ u7.cell? ⟨bx, 8, none⟩ = some (.slice a.ea a.en a.ec) := ⟨keep0 hq hS6.1, keep0 hq hS6.2.1, keep0 hq hS6.2.2.1, keep0 hq hS6.2.2.2.1, keep0 hq hS6.2.2.2.2.1, keep0 hq hS6.2.2.2.2.2.1, keep0 hq hS6.2.2.2.2.2.2⟩
                  refine hK.out _ _ (fun _ => hS7) ?_
                  clear hK K hS6 hq ho
                  (first | (refine tkR 21 (v := ?_) rfl hS7 ⟨by rfl, ?_⟩ ?_; rotate_left; intro w h; (try dsimp only at h); first | (go_simp; done) | (go_simp; with_reducible rfl)) | refine skR 21 rfl (fun _ => hS7) (by rfl) ?_); simp only [zq1, zq2, zq3, Act.put, zq4, zq5, zq6]
                  refine wpAnyR_one 22 rfl (by kernel_rfl) (fun K hK => ?_)
                  go_simp
                  have hq : Kept S0 u7 (u7.alloc (.cells #[.slice none 0 0, .slice none 0 0, .slice none 0 0, .slice none 0 0, .slice none 0 0, .slice none 0 0, .slice none 0 0, .slice none 0 0, .slice none 0 0] 77)) := (Kept.refl S0 u7).alloc _
                  have HA8 := Lib.hid (Blk.new u7 77 #[.slice none 0 0, .slice none 0 0, .slice none 0 0, .slice none 0 0, .slice none 0 0, .slice none 0 0, .slice none 0 0, .slice none 0 0, .slice none 0 0])
                  have HL := HW7
                  have HW8 := Lib.hid (Nat.le_trans HW7.out hq.size)
                  have HK8 := Lib.hid (HK7.out.then0 hq)
                  have HO8_0 := Lib.hid (HO7_0.out.kept hq (fun _ _ x => x))
                  have HO8_1 := Lib.hid (HO7_1.out.kept hq (fun _ _ x => x))
                  have HO8_2 := Lib.hid (HO7_2.out.kept hq (fun _ _ x => x))
                  have HO8_3 := Lib.hid (HO7_3.out.kept hq (fun _ _ x => x))
                  have HO8_4 := Lib.hid (HO7_4.out.kept hq (fun _ _ x => x))
                  have HO8_5 := Lib.hid (HO7_5.out.kept hq (fun _ _ x => x))
                  have HO8_6 := Lib.hid (HO7_6.out.kept hq (fun _ _ x => x))
                  have hS8 : (u7.alloc (.cells #[.slice none 0 0, .slice none 0 0, .slice none 0 0, .slice none 0 0, .slice none 0 0, .slice none 0 0, .slice none 0 0, .slice none 0 0, .slice none 0 0] 77)).cell? ⟨bx, 1, none⟩ = some (.slice (a.la 0) (a.ln 0) (a.lc 0)) ∧ (u7.alloc (.cells #[.slice none 0 0, .slice none 0 0, .slice none 0 0, .slice none 0 0, .slice none 0 0, .slice none 0 0, .slice none 0 0, .slice none 0 0, .slice none 0 0] 77)).cell? ⟨bx, 2, none⟩ = some (.slice (a.la 1) (a.ln 1) (a.lc 1)) ∧ (u7.alloc (.cells #[.slice none 0 0, .slice none 0 0, .slice none 0 0, .slice none 0 0, .slice none 0 0, .slice none 0 0, .slice none 0 0, .slice none 0 0, .slice none 0 0] 77)).cell? ⟨bx, 3, none⟩ = some (.slice (a.la 2) (a.ln 2) (a.lc 2)) ∧ (u7.alloc (.cells #[.slice none 0 0, .slice none 0 0, .slice none 0 0, .slice none 0 0, .slice none 0 0, .slice none 0 0, .slice none 0 0, .slice none 0 0, .slice none 0 0] 77)).cell? ⟨bx, 4, none⟩ = some (.slice (a.la 3) (a.ln 3) (a.lc 3)) ∧ (u7.alloc (.cells #[.slice none 0 0, .slice none 0 0, .slice none 0 0, .slice none 0 0, .slice none 0 0, .slice none 0 0, .slice none 0 0, .slice none 0 0, .slice none 0 0] 77)).cell? ⟨bx, 5, none⟩ = some (.slice (a.la 4) (a.ln 4) (a.lc 4)) ∧ (u7.alloc (.cells #[.slice none 0 0, .slice none 0 0, .slice none 0 0, .slice none 0 0, .slice none 0 0, .slice none 0 0, .slice none 0 0, .slice none 0 0, .slice none 0 0] 77)).cell? ⟨bx, 6, none⟩ = some (.slice (a.la 5) (a.ln 5) (a.lc 5)) ∧ (u7.alloc (.cells #[.slice none 0 0, .slice none 0 0, .slice none 0 0, .slice none 0 0, .slice none 0 0, .slice none 0 0, .slice none 0 0, .slice none 0 0, .slice none 0 0] 77)).cell? ⟨bx, 8, none⟩ = some (.slice a.ea a.en a.ec) := ⟨keep0 hq hS7.1, keep0 hq hS7.2.1, keep0 hq hS7.2.2.1, keep0 hq hS7.2.2.2.1, keep0 hq hS7.2.2.2.2.1, keep0 hq hS7.2.2.2.2.2.1, keep0 hq hS7.2.2.2.2.2.2⟩
                  refine hK.out _ _ (fun _ => hS8) ?_
                  clear hK K hS7 hq
                  generalize u7.heap.size = ib at *
                  generalize (u7.alloc (.cells #[.slice none 0 0, .slice none 0 0, .slice none 0 0, .slice none 0 0, .slice none 0 0, .slice none 0 0, .slice none 0 0, .slice none 0 0, .slice none 0 0] 77)) = u8 at *
                  have a0 := HA8.out.cell 0
                  have b0 := HA8.out.frozen 0
                  have a1 := HA8.out.cell 1
                  have b1 := HA8.out.frozen 1
                  have a2 := HA8.out.cell 2
                  have b2 := HA8.out.frozen 2
                  have a3 := HA8.out.cell 3
                  have b3 := HA8.out.frozen 3
                  have a4 := HA8.out.cell 4
                  have b4 := HA8.out.frozen 4
                  have a5 := HA8.out.cell 5
                  have b5 := HA8.out.frozen 5
                  have a6 := HA8.out.cell 6
                  have b6 := HA8.out.frozen 6
                  have a7 := HA8.out.cell 7
                  have b7 := HA8.out.frozen 7
                  have a8 := HA8.out.cell 8
                  have b8 := HA8.out.frozen 8
                  refine wpAnyR_one 23 rfl (by kernel_rfl) (fun K hK => ?_)
                  go_simp
                  refine hK.out _ _ (fun h => absurd h (by decide)) ?_
                  clear hK K hS8
                  refine wpAnyR_done (by kernel_rfl) ?_ _
                  have hks : Kept (S1 ib) u8 (((((((((u8.setCell ⟨ib, 0, none⟩ (.slice none 0 0)).setCell ⟨ib, 1, none⟩ (.slice y0 (a.ln 0) yc0)).setCell ⟨ib, 2, none⟩ (.slice y1 (a.ln 1) yc1)).setCell ⟨ib, 3, none⟩ (.slice y2 (a.ln 2) yc2)).setCell ⟨ib, 4, none⟩ (.slice y3 (a.ln 3) yc3)).setCell ⟨ib, 5, none⟩ (.slice y4 (a.ln 4) yc4)).setCell ⟨ib, 6, none⟩ (.slice y5 (a.ln 5) yc5)).setCell ⟨ib, 7, none⟩ (.slice none 0 0)).setCell ⟨ib, 8, none⟩ (.slice y6 a.en yc6)) := ((((((((((Kept.refl (S1 ib) u8).setCell (p := ⟨ib, 0, none⟩) (.inl rfl) (.slice none 0 0)).setCell (p := ⟨ib, 1, none⟩) (.inl rfl) (.slice y0 (a.ln 0) yc0)).setCell (p := ⟨ib, 2, none⟩) (.inl rfl) (.slice y1 (a.ln 1) yc1)).setCell (p := ⟨ib, 3, none⟩) (.inl rfl) (.slice y2 (a.ln 2) yc2)).setCell (p := ⟨ib, 4, none⟩) (.inl rfl) (.slice y3 (a.ln 3) yc3)).setCell (p := ⟨ib, 5, none⟩) (.inl rfl) (.slice y4 (a.ln 4) yc4)).setCell (p := ⟨ib, 6, none⟩) (.inl rfl) (.slice y5 (a.ln 5) yc5)).setCell (p := ⟨ib, 7, none⟩) (.inl rfl) (.slice none 0 0)).setCell (p := ⟨ib, 8, none⟩) (.inl rfl) (.slice y6 a.en yc6))
                  have hfin : InSt (((((((((u8.setCell ⟨ib, 0, none⟩ (.slice none 0 0)).setCell ⟨ib, 1, none⟩ (.slice y0 (a.ln 0) yc0)).setCell ⟨ib, 2, none⟩ (.slice y1 (a.ln 1) yc1)).setCell ⟨ib, 3, none⟩ (.slice y2 (a.ln 2) yc2)).setCell ⟨ib, 4, none⟩ (.slice y3 (a.ln 3) yc3)).setCell ⟨ib, 5, none⟩ (.slice y4 (a.ln 4) yc4)).setCell ⟨ib, 6, none⟩ (.slice y5 (a.ln 5) yc5)).setCell ⟨ib, 7, none⟩ (.slice none 0 0)).setCell ⟨ib, 8, none⟩ (.slice y6 a.en yc6)) wa.heap.size ib a (.slice none 0 0) (.slice none 0 0) := ⟨HL.out, y0, y1, y2, y3, y4, y5, y6, yc0, yc1, yc2, yc3, yc4, yc5, yc6, (((((((((HA8.out.set_ 0 (.slice none 0 0)).set_ 1 (.slice y0 (a.ln 0) yc0)).set_ 2 (.slice y1 (a.ln 1) yc1)).set_ 3 (.slice y2 (a.ln 2) yc2)).set_ 4 (.slice y3 (a.ln 3) yc3)).set_ 5 (.slice y4 (a.ln 4) yc4)).set_ 6 (.slice y5 (a.ln 5) yc5)).set_ 7 (.slice none 0 0)).set_ 8 (.slice y6 a.en yc6)), HO8_0.out.kept hks (fun g hg x => (HO8_0.out.ofT hg).ne HA8.out.ofT (by decide) (by exact x)), HO8_1.out.kept hks (fun g hg x => (HO8_1.out.ofT hg).ne HA8.out.ofT (by decide) (by exact x)), HO8_2.out.kept hks (fun g hg x => (HO8_2.out.ofT hg).ne HA8.out.ofT (by decide) (by exact x)), HO8_3.out.kept hks (fun g hg x => (HO8_3.out.ofT hg).ne HA8.out.ofT (by decide) (by exact x)), HO8_4.out.kept hks (fun g hg x => (HO8_4.out.ofT hg).ne HA8.out.ofT (by decide) (by exact x)), HO8_5.out.kept hks (fun g hg x => (HO8_5.out.ofT hg).ne HA8.out.ofT (by decide) (by exact x)), HO8_6.out.kept hks (fun g hg x => (HO8_6.out.ofT hg).ne HA8.out.ofT (by decide) (by exact x))⟩
                  go_wp2_with fail
                  go_meet
                  exact ⟨ib, rfl, hfin, (HK0.out.then0 HK8.out).trans_ hks (fun i e => .inr (by have e' : i = ib := e; rw [e']; exact HL.out))⟩
                · go_simp
                  have hq : Kept S0 u6 (u6.alloc (.cells #[.slice none 0 0, .slice none 0 0, .slice none 0 0, .slice none 0 0, .slice none 0 0, .slice none 0 0, .slice none 0 0, .slice none 0 0, .slice none 0 0] 77)) := (Kept.refl S0 u6).alloc _
                  have HA7 := Lib.hid (Blk.new u6 77 #[.slice none 0 0, .slice none 0 0, .slice none 0 0, .slice none 0 0, .slice none 0 0, .slice none 0 0, .slice none 0 0, .slice none 0 0, .slice none 0 0])
                  have HL := HW6
                  have HW7 := Lib.hid (Nat.le_trans HW6.out hq.size)
                  have HK7 := Lib.hid (HK6.out.then0 hq)
                  have HO7_0 := Lib.hid (HO6_0.out.kept hq (fun _ _ x => x))
                  have HO7_1 := Lib.hid (HO6_1.out.kept hq (fun _ _ x => x))
                  have HO7_2 := Lib.hid (HO6_2.out.kept hq (fun _ _ x => x))
                  have HO7_3 := Lib.hid (HO6_3.out.kept hq (fun _ _ x => x))
                  have HO7_4 := Lib.hid (HO6_4.out.kept hq (fun _ _ x => x))
                  have HO7_5 := Lib.hid (HO6_5.out.kept hq (fun _ _ x => x))
                  have hS7 : (u6.alloc (.cells #[.slice none 0 0, .slice none 0 0, .slice none 0 0, .slice none 0 0, .slice none 0 0, .slice none 0 0, .slice none 0 0, .slice none 0 0, .slice none 0 0] 77)).cell? ⟨bx, 1, none⟩ = some (.slice (a.la 0) (a.ln 0) (a.lc 0)) ∧ (u6.alloc (.cells #[.slice none 0 0, .slice none 0 0, .slice none 0 0, .slice none 0 0, .slice none 0 0, .slice none 0 0, .slice none 0 0, .slice none 0 0, .slice none 0 0] 77)).cell? ⟨bx, 2, none⟩ = some (.slice (a.la 1) (a.ln 1) (a.lc 1)) ∧ (u6.alloc (.cells #[.slice none 0 0, .slice none 0 0, .slice none 0 0, .slice none 0 0, .slice none 0 0, .slice none 0 0, .slice none 0 0, .slice none 0 0, .slice none 0 0] 77)).cell? ⟨bx, 3, none⟩ = some (.slice (a.la 2) (a.ln 2) (a.lc 2)) ∧ (u6.alloc (.cells #[.slice none 0 0, .slice none 0 0, .slice none 0 0, .slice none 0 0, .slice none 0 0, .slice none 0 0, .slice none 0 0, .slice none 0 0, .slice none 0 0] 77)).cell? ⟨bx, 4, none⟩ = some (.slice (a.la 3) (a.ln 3) (a.lc 3)) ∧ (u6.alloc (.cells #[.slice none 0 0, .slice none 0 0, .slice none 0 0, .slice none 0 0, .slice none 0 0, .slice none 0 0, .slice none 0 0, .slice none 0 0, .slice none 0 0] 77)).cell? ⟨bx, 5, none⟩ = some (.slice (a.la 4) (a.ln 4) (a.lc 4)) ∧ (u6.alloc (.cells #[.slice none 0 0, .slice none 0 0, .slice none 0 0, .slice none 0 0, .slice none 0 0, .slice none 0 0, .slice none 0 0, .slice none 0 0, .slice none 0 0] 77)).cell? ⟨bx, 6, none⟩ = some (.slice (a.la 5) (a.ln 5) (a.lc 5)) ∧ (u6.alloc (.cells #[.slice none 0 0, .slice none 0 0, .slice none 0 0, .slice none 0 0, .slice none 0 0, .slice none 0 0, .slice none 0 0, .slice none 0 0, .slice none 0 0] 77)).cell? ⟨bx, 8, none⟩ = some (.slice a.ea a.en a.ec) := ⟨keep0 hq hS6.1, keep0 hq hS6.2.1, keep0 hq hS6.2.2.1, keep0 hq hS6.2.2.2.1, keep0 hq hS6.2.2.2.2.1, keep0 hq hS6.2.2.2.2.2.1, keep0 hq hS6.2.2.2.2.2.2⟩
                  refine hK.out _ _ (fun _ => hS7) ?_
                  clear hK K hS6 hq
                  generalize u6.heap.size = ib at *
                  generalize (u6.alloc (.cells #[.slice none 0 0, .slice none 0 0, .slice none 0 0, .slice none 0 0, .slice none 0 0, .slice none 0 0, .slice none 0 0, .slice none 0 0, .slice none 0 0] 77)) = u7 at *
                  refine wpAnyR_one 20 rfl (by kernel_rfl) (fun K hK => ?_)
                  go_simp
                  go_at_call 104
                  refine (clone_nameds a.ea a.en a.ec a.EF u7 (HIN.out.kept HK7.out).ex HONE.out).mono ?_
                  rintro e u8 ⟨y6, yc6, rfl, ho, hq⟩
                  have HK8 := Lib.hid (HK7.out.then0 hq)
                  have HO8_0 := Lib.hid (HO7_0.out.kept hq (fun _ _ x => x))
                  have HO8_1 := Lib.hid (HO7_1.out.kept hq (fun _ _ x => x))
                  have HO8_2 := Lib.hid (HO7_2.out.kept hq (fun _ _ x => x))
                  have HO8_3 := Lib.hid (HO7_3.out.kept hq (fun _ _ x => x))
                  have HO8_4 := Lib.hid (HO7_4.out.kept hq (fun _ _ x => x))
                  have HO8_5 := Lib.hid (HO7_5.out.kept hq (fun _ _ x => x))
                  have HO8_6 := Lib.hid (ho.mono HW7.out)
                  have HW8 := Lib.hid (Nat.le_trans HW7.out hq.size)
                  have HA8 := Lib.hid (hq.blk HA7.out (fun x => x))
                  have hS8 : u8.cell? ⟨bx, 1, none⟩ = some (.slice (a.la 0) (a.ln 0) (a.lc 0)) ∧ u8.cell? ⟨bx, 2, none⟩ = some (.slice (a.la 1) (a.ln 1) (a.lc 1)) ∧ u8.cell? ⟨bx, 3, none⟩ = some (.slice (a.la 2) (a.ln 2) (a.lc 2)) ∧ u8.cell? ⟨bx, 4, none⟩ = some (.slice (a.la 3) (a.ln 3) (a.lc 3)) ∧ u8.cell? ⟨bx, 5, none⟩ = some (.slice (a.la 4) (a.ln 4) (a.lc 4)) ∧ u8.cell? ⟨bx, 6, none⟩ = some (.slice (a.la 5) (a.ln 5) (a.lc 5)) ∧ u8.cell? ⟨bx, 8, none⟩ = some (.slice a.ea a.en a.ec) := ⟨keep0 hq hS7.1, keep0 hq hS7.2.1, keep0 hq hS7.2.2.1, keep0 hq hS7.2.2.2.1, keep0 hq hS7.2.2.2.2.1, keep0 hq hS7.2.2.2.2.2.1, keep0 hq hS7.2.2.2.2.2.2⟩
                  refine hK.out _ _ (fun _ => hS8) ?_
                  clear hK K hS7 hq ho
                  (first | (refine tkR 21 (v := ?_) rfl hS8 ⟨by rfl, ?_⟩ ?_; rotate_left; intro w h; (try dsimp only at h); first | (go_simp; done) | (go_simp; with_reducible rfl)) | refine skR 21 rfl (fun _ => hS8) (by rfl) ?_); simp only [zq1, zq2, zq3, Act.put, zq4, zq5, zq6]
                  have a0 := HA8.out.cell 0
                  have b0 := HA8.out.frozen 0
                  have a1 := HA8.out.cell 1
                  have b1 := HA8.out.frozen 1
                  have a2 := HA8.out.cell 2
                  have b2 := HA8.out.frozen 2
                  have a3 := HA8.out.cell 3
                  have b3 := HA8.out.frozen 3
                  have a4 := HA8.out.cell 4
                  have b4 := HA8.out.frozen 4
                  have a5 := HA8.out.cell 5
                  have b5 := HA8.out.frozen 5
                  have a6 := HA8.out.cell 6
                  have b6 := HA8.out.frozen 6
                  have a7 := HA8.out.cell 7
                  have b7 := HA8.out.frozen 7
                  have a8 := HA8.out.cell 8
                  have b8 := HA8.out.frozen 8
                  refine wpAnyR_one 23 rfl (by kernel_rfl) (fun K hK => ?_)
                  go_simp
                  refine hK.out _ _ (fun h => absurd h (by decide)) ?_
                  clear hK K hS8
                  refine wpAnyR_done (by kernel_rfl) ?_ _
                  have hks : Kept (S1 ib) u8 (((((((((u8.setCell ⟨ib, 0, none⟩ (.slice none 0 0)).setCell ⟨ib, 1, none⟩ (.slice y0 (a.ln 0) yc0)).setCell ⟨ib, 2, none⟩ (.slice y1 (a.ln 1) yc1)).setCell ⟨ib, 3, none⟩ (.slice y2 (a.ln 2) yc2)).setCell ⟨ib, 4, none⟩ (.slice y3 (a.ln 3) yc3)).setCell ⟨ib, 5, none⟩ (.slice y4 (a.ln 4) yc4)).setCell ⟨ib, 6, none⟩ (.slice y5 (a.ln 5) yc5)).setCell ⟨ib, 7, none⟩ (.slice none 0 0)).setCell ⟨ib, 8, none⟩ (.slice y6 a.en yc6)) := ((((((((((Kept.refl (S1 ib) u8).setCell (p := ⟨ib, 0, none⟩) (.inl rfl) (.slice none 0 0)).setCell (p := ⟨ib, 1, none⟩) (.inl rfl) (.slice y0 (a.ln 0) yc0)).setCell (p := ⟨ib, 2, none⟩) (.inl rfl) (.slice y1 (a.ln 1) yc1)).setCell (p := ⟨ib, 3, none⟩) (.inl rfl) (.slice y2 (a.ln 2) yc2)).setCell (p := ⟨ib, 4, none⟩) (.inl rfl) (.slice y3 (a.ln 3) yc3)).setCell (p := ⟨ib, 5, none⟩) (.inl rfl) (.slice y4 (a.ln 4) yc4)).setCell (p := ⟨ib, 6, none⟩) (.inl rfl) (.slice y5 (a.ln 5) yc5)).setCell (p := ⟨ib, 7, none⟩) (.inl rfl) (.slice none 0 0)).setCell (p := ⟨ib, 8, none⟩) (.inl rfl) (.slice y6 a.en yc6))
                  have hfin : InSt (((((((((u8.setCell ⟨ib, 0, none⟩ (.slice none 0 0)).setCell ⟨ib, 1, none⟩ (.slice y0 (a.ln 0) yc0)).setCell ⟨ib, 2, none⟩ (.slice y1 (a.ln 1) yc1)).setCell ⟨ib, 3, none⟩ (.slice y2 (a.ln 2) yc2)).setCell ⟨ib, 4, none⟩ (.slice y3 (a.ln 3) yc3)).setCell ⟨ib, 5, none⟩ (.slice y4 (a.ln 4) yc4)).setCell ⟨ib, 6, none⟩ (.slice y5 (a.ln 5) yc5)).setCell ⟨ib, 7, none⟩ (.slice none 0 0)).setCell ⟨ib, 8, none⟩ (.slice y6 a.en yc6)) wa.heap.size ib a (.slice none 0 0) (.slice none 0 0) := ⟨HL.out, y0, y1, y2, y3, y4, y5, y6, yc0, yc1, yc2, yc3, yc4, yc5, yc6, (((((((((HA8.out.set_ 0 (.slice none 0 0)).set_ 1 (.slice y0 (a.ln 0) yc0)).set_ 2 (.slice y1 (a.ln 1) yc1)).set_ 3 (.slice y2 (a.ln 2) yc2)).set_ 4 (.slice y3 (a.ln 3) yc3)).set_ 5 (.slice y4 (a.ln 4) yc4)).set_ 6 (.slice y5 (a.ln 5) yc5)).set_ 7 (.slice none 0 0)).set_ 8 (.slice y6 a.en yc6)), HO8_0.out.kept hks (fun g hg x => (HO8_0.out.ofT hg).ne HA8.out.ofT (by decide) (by exact x)), HO8_1.out.kept hks (fun g hg x => (HO8_1.out.ofT hg).ne HA8.out.ofT (by decide) (by exact x)), HO8_2.out.kept hks (fun g hg x => (HO8_2.out.ofT hg).ne HA8.out.ofT (by decide) (by exact x)), HO8_3.out.kept hks (fun g hg x => (HO8_3.out.ofT hg).ne HA8.out.ofT (by decide) (by exact x)), HO8_4.out.kept hks (fun g hg x => (HO8_4.out.ofT hg).ne HA8.out.ofT (by decide) (by exact x)), HO8_5.out.kept hks (fun g hg x => (HO8_5.out.ofT hg).ne HA8.out.ofT (by decide) (by exact x)), HO8_6.out.kept hks (fun g hg x => (HO8_6.out.ofT hg).ne HA8.out.ofT (by decide) (by exact x))⟩
                  go_wp2_with fail
                  go_meet
                  exact ⟨ib, rfl, hfin, (HK0.out.then0 HK8.out).trans_ hks (fun i e => .inr (by have e' : i = ib := e; rw [e']; exact HL.out))⟩
              · go_simp
                have hq : Kept S0 u5 (u5.alloc (.cells #[.slice none 0 0, .slice none 0 0, .slice none 0 0, .slice none 0 0, .slice none 0 0, .slice none 0 0, .slice none 0 0, .slice none 0 0, .slice none 0 0] 77)) := (Kept.refl S0 u5).alloc _
                have HA6 := Lib.hid (Blk.new u5 77 #[.slice none 0 0, .slice none 0 0, .slice none 0 0, .slice none 0 0, .slice none 0 0, .slice none 0 0, .slice none 0 0, .slice none 0 0, .slice none 0 0])
                have HL := HW5
                have HW6 := Lib.hid (Nat.le_trans HW5.out hq.size)
                have HK6 := Lib.hid (HK5.out.then0 hq)
                have HO6_0 := Lib.hid (HO5_0.out.kept hq (fun _ _ x => x))
                have HO6_1 := Lib.hid (HO5_1.out.kept hq (fun _ _ x => x))
                have HO6_2 := Lib.hid (HO5_2.out.kept hq (fun _ _ x => x))
                have HO6_3 := Lib.hid (HO5_3.out.kept hq (fun _ _ x => x))
                have HO6_4 := Lib.hid (HO5_4.out.kept hq (fun _ _ x => x))
                have hS6 : (u5.alloc (.cells #[.slice none 0 0, .slice none 0 0, .slice none 0 0, .slice none 0 0, .slice none 0 0, .slice none 0 0, .slice none 0 0, .slice none 0 0, .slice none 0 0] 77)).cell? ⟨bx, 1, none⟩ = some (.slice (a.la 0) (a.ln 0) (a.lc 0)) ∧ (u5.alloc (.cells #[.slice none 0 0, .slice none 0 0, .slice none 0 0, .slice none 0 0, .slice none 0 0, .slice none 0 0, .slice none 0 0, .slice none 0 0, .slice none 0 0] 77)).cell? ⟨bx, 2, none⟩ = some (.slice (a.la 1) (a.ln 1) (a.lc 1)) ∧ (u5.alloc (.cells #[.slice none 0 0, .slice none 0 0, .slice none 0 0, .slice none 0 0, .slice none 0 0, .slice none 0 0, .slice none 0 0, .slice none 0 0, .slice none 0 0] 77)).cell? ⟨bx, 3, none⟩ = some (.slice (a.la 2) (a.ln 2) (a.lc 2)) ∧ (u5.alloc (.cells #[.slice none 0 0, .slice none 0 0, .slice none 0 0, .slice none 0 0, .slice none 0 0, .slice none 0 0, .slice none 0 0, .slice none 0 0, .slice none 0 0] 77)).cell? ⟨bx, 4, none⟩ = some (.slice (a.la 3) (a.ln 3) (a.lc 3)) ∧ (u5.alloc (.cells #[.slice none 0 0, .slice none 0 0, .slice none 0 0, .slice none 0 0, .slice none 0 0, .slice none 0 0, .slice none 0 0, .slice none 0 0, .slice none 0 0] 77)).cell? ⟨bx, 5, none⟩ = some (.slice (a.la 4) (a.ln 4) (a.lc 4)) ∧ (u5.alloc (.cells #[.slice none 0 0, .slice none 0 0, .slice none 0 0, .slice none 0 0, .slice none 0 0, .slice none 0 0, .slice none 0 0, .slice none 0 0, .slice none 0 0] 77)).cell? ⟨bx, 6, none⟩ = some (.slice (a.la 5) (a.ln 5) (a.lc 5)) ∧ (u5.alloc (.cells #[.slice none 0 0, .slice none 0 0, .slice none 0 0, .slice none 0 0, .slice none 0 0, .slice none 0 0, .slice none 0 0, .slice none 0 0, .slice none 0 0] 77)).cell? ⟨bx, 8, none⟩ = some (.slice a.ea a.en a.ec) := ⟨keep0 hq hS5.1, keep0 hq hS5.2.1, keep0 hq hS5.2.2.1, keep0 hq hS5.2.2.2.1, keep0 hq hS5.2.2.2.2.1, keep0 hq hS5.2.2.2.2.2.1, keep0 hq hS5.2.2.2.2.2.2⟩
                refine hK.out _ _ (fun _ => hS6) ?_
                clear hK K hS5 hq
                generalize u5.heap.size = ib at *
                generalize (u5.alloc (.cells #[.slice none 0 0, .slice none 0 0, .slice none 0 0, .slice none 0 0, .slice none 0 0, .slice none 0 0, .slice none 0 0, .slice none 0 0, .slice none 0 0] 77)) = u6 at *
                refine wpAnyR_one 17 rfl (by kernel_rfl) (fun K hK => ?_)
                go_simp
                go_at_call 103
                refine (clone_ints (a.la 5) (a.ln 5) (a.lc 5) (intV (a.lf 5)) u6 ((HIN.out.kept HK6.out).l 5 (by omega)) (fun _ _ => rfl)).mono ?_
                rintro e u7 ⟨y5, yc5, rfl, ho, hq⟩
                have HK7 := Lib.hid (HK6.out.then0 hq)
                have HO7_0 := Lib.hid (HO6_0.out.kept hq (fun _ _ x => x))
                have HO7_1 := Lib.hid (HO6_1.out.kept hq (fun _ _ x => x))
                have HO7_2 := Lib.hid (HO6_2.out.kept hq (fun _ _ x => x))
                have HO7_3 := Lib.hid (HO6_3.out.kept hq (fun _ _ x => x))
                have HO7_4 := Lib.hid (HO6_4.out.kept hq (fun _ _ x => x))
                have HO7_5 := Lib.hid (ho.mono HW6.out)
                have HW7 := Lib.hid (Nat.le_trans HW6.out hq.size)
                have HA7 := Lib.hid (hq.blk HA6.out (fun x => x))
                have hS7 : u7.cell? ⟨bx, 1, none⟩ = some (.slice (a.la 0) (a.ln 0) (a.lc 0)) ∧ u7.cell? ⟨bx, 2, none⟩ = some (.slice (a.la 1) (a.ln 1) (a.lc 1)) ∧ u7.cell? ⟨bx, 3, none⟩ = some (.slice (a.la 2) (a.ln 2) (a.lc 2)) ∧ u7.cell? ⟨bx, 4, none⟩ = some (.slice (a.la 3) (a.ln 3) (a.lc 3)) ∧ u7.cell? ⟨bx, 5, none⟩ = some (.slice (a.la 4) (a.ln 4) (a.lc 4)) ∧ u7.cell? ⟨bx, 6, none⟩ = some (.slice (a.la 5) (a.ln 5) (a.lc 5)) ∧ u7.cell? ⟨bx, 8, none⟩ = some (.slice a.ea a.en a.ec) := ⟨keep0 hq hS6.1, keep0 hq hS6.2.1, keep0 hq hS6.2.2.1, keep0 hq hS6.2.2.2.1, keep0 hq hS6.2.2.2.2.1, keep0 hq hS6.2.2.2.2.2.1, keep0 hq hS6.2.2.2.2.2.2⟩
                refine hK.out _ _ (fun _ => hS7) ?_
                clear hK K hS6 hq ho
                refine wpAnyR_one 20 rfl (by kernel_rfl) (fun K hK => ?_)
                go_simp
                go_at_call 104
                refine (clone_nameds a.ea a.en a.ec a.EF u7 (HIN.out.kept HK7.out).ex HONE.out).mono ?_
                rintro e u8 ⟨y6, yc6, rfl, ho, hq⟩
                have HK8 := Lib.hid (HK7.out.then0 hq)
                have HO8_0 := Lib.hid (HO7_0.out.kept hq (fun _ _ x => x))
                have HO8_1 := Lib.hid (HO7_1.out.kept hq (fun _ _ x => x))
                have HO8_2 := Lib.hid (HO7_2.out.kept hq (fun _ _ x => x))
                have HO8_3 := Lib.hid (HO7_3.out.kept hq (fun _ _ x => x))
                have HO8_4 := Lib.hid (HO7_4.out.kept hq (fun _ _ x => x))
                have HO8_5 := Lib.hid (HO7_5.out.kept hq (fun _ _ x => x))
                have HO8_6 := Lib.hid (ho.mono HW7.out)
                have HW8 := Lib.hid (Nat.le_trans HW7.out hq.size)
                have HA8 := Lib.hid (hq.blk HA7.out (fun x => x))
                have hS8 : u8.cell? ⟨bx, 1, none⟩ = some (.slice (a.la 0) (a.ln 0) (a.lc 0)) ∧ u8.cell? ⟨bx, 2, none⟩ = some (.slice (a.la 1) (a.ln 1) (a.lc 1)) ∧ u8.cell? ⟨bx, 3, none⟩ = some (.slice (a.la 2) (a.ln 2) (a.lc 2)) ∧ u8.cell? ⟨bx, 4, none⟩ = some (.slice (a.la 3) (a.ln 3) (a.lc 3)) ∧ u8.cell? ⟨bx, 5, none⟩ = some (.slice (a.la 4) (a.ln 4) (a.lc 4)) ∧ u8.cell? ⟨bx, 6, none⟩ = some (.slice (a.la 5) (a.ln 5) (a.lc 5)) ∧ u8.cell? ⟨bx, 8, none⟩ = some (.slice a.ea a.en a.ec) := ⟨keep0 hq hS7.1, keep0 hq hS7.2.1, keep0 hq hS7.2.2.1, keep0 hq hS7.2.2.2.1, keep0 hq hS7.2.2.2.2.1, keep0 hq hS7.2.2.2.2.2.1, keep0 hq hS7.2.2.2.2.2.2⟩
                refine hK.out _ _ (fun _ => hS8) ?_
                clear hK K hS7 hq ho
                (first | (refine tkR 21 (v := ?_) rfl hS8 ⟨by rfl, ?_⟩ ?_; rotate_left; intro w h; (try dsimp only at h); first | (go_simp; done) | (go_simp; with_reducible rfl)) | refine skR 21 rfl (fun _ => hS8) (by rfl) ?_); simp only [zq1, zq2, zq3, Act.put, zq4, zq5, zq6]
                have a0 := HA8.out.cell 0
                have b0 := HA8.out.frozen 0
                have a1 := HA8.out.cell 1
                have b1 := HA8.out.frozen 1
                have a2 := HA8.out.cell 2
                have b2 := HA8.out.frozen 2
                have a3 := HA8.out.cell 3
                have b3 := HA8.out.frozen 3
                have a4 := HA8.out.cell 4
                have b4 := HA8.out.frozen 4
                have a5 := HA8.out.cell 5
                have b5 := HA8.out.frozen 5
                have a6 := HA8.out.cell 6
                have b6 := HA8.out.frozen 6
                have a7 := HA8.out.cell 7
                have b7 := HA8.out.frozen 7
                have a8 := HA8.out.cell 8
                have b8 := HA8.out.frozen 8
                refine wpAnyR_one 23 rfl (by kernel_rfl) (fun K hK => ?_)
                go_simp
                refine hK.out _ _ (fun h => absurd h (by decide)) ?_
                clear hK K hS8
                refine wpAnyR_done (by kernel_rfl) ?_ _
                have hks : Kept (S1 ib) u8 (((((((((u8.setCell ⟨ib, 0, none⟩ (.slice none 0 0)).setCell ⟨ib, 1, none⟩ (.slice y0 (a.ln 0) yc0)).setCell ⟨ib, 2, none⟩ (.slice y1 (a.ln 1) yc1)).setCell ⟨ib, 3, none⟩ (.slice y2 (a.ln 2) yc2)).setCell ⟨ib, 4, none⟩ (.slice y3 (a.ln 3) yc3)).setCell ⟨ib, 5, none⟩ (.slice y4 (a.ln 4) yc4)).setCell ⟨ib, 6, none⟩ (.slice y5 (a.ln 5) yc5)).setCell ⟨ib, 7, none⟩ (.slice none 0 0)).setCell ⟨ib, 8, none⟩ (.slice y6 a.en yc6)) := ((((((((((Kept.refl (S1 ib) u8).setCell (p := ⟨ib, 0, none⟩) (.inl rfl) (.slice none 0 0)).setCell (p := ⟨ib, 1, none⟩) (.inl rfl) (.slice y0 (a.ln 0) yc0)).setCell (p := ⟨ib, 2, none⟩) (.inl rfl) (.slice y1 (a.ln 1) yc1)).setCell (p := ⟨ib, 3, none⟩) (.inl rfl) (.slice y2 (a.ln 2) yc2)).setCell (p := ⟨ib, 4, none⟩) (.inl rfl) (.slice y3 (a.ln 3) yc3)).setCell (p := ⟨ib, 5, none⟩) (.inl rfl) (.slice y4 (a.ln 4) yc4)).setCell (p := ⟨ib, 6, none⟩) (.inl rfl) (.slice y5 (a.ln 5) yc5)).setCell (p := ⟨ib, 7, none⟩) (.inl rfl) (.slice none 0 0)).setCell (p := ⟨ib, 8, none⟩) (.inl rfl) (.slice y6 a.en yc6))
                have hfin : InSt (((((((((u8.setCell ⟨ib, 0, none⟩ (.slice none 0 0)).setCell ⟨ib, 1, none⟩ (.slice y0 (a.ln 0) yc0)).setCell ⟨ib, 2, none⟩ (.slice y1 (a.ln 1) yc1)).setCell ⟨ib, 3, none⟩ (.slice y2 (a.ln 2) yc2)).setCell ⟨ib, 4, none⟩ (.slice y3 (a.ln 3) yc3)).setCell ⟨ib, 5, none⟩ (.slice y4 (a.ln 4) yc4)).setCell ⟨ib, 6, none⟩ (.slice y5 (a.ln 5) yc5)).setCell ⟨ib, 7, none⟩ (.slice none 0 0)).setCell ⟨ib, 8, none⟩ (.slice y6 a.en yc6)) wa.heap.size ib a (.slice none 0 0) (.slice none 0 0) := ⟨HL.out, y0, y1, y2, y3, y4, y5, y6, yc0, yc1, yc2, yc3, yc4, yc5, yc6, (((((((((HA8.out.set_ 0 (.slice none 0 0)).set_ 1 (.slice y0 (a.ln 0) yc0)).set_ 2 (.slice y1 (a.ln 1) yc1)).set_ 3 (.slice y2 (a.ln 2) yc2)).set_ 4 (.slice y3 (a.ln 3) yc3)).set_ 5 (.slice y4 (a.ln 4) yc4)).set_ 6 (.slice y5 (a.ln 5) yc5)).set_ 7 (.slice none 0 0)).set_ 8 (.slice y6 a.en yc6)), HO8_0.out.kept hks (fun g hg x => (HO8_0.out.ofT hg).ne HA8.out.ofT (by decide) (by exact x)), HO8_1.out.kept hks (fun g hg x => (HO8_1.out.ofT hg).ne HA8.out.ofT (by decide) (by exact x)), HO8_2.out.kept hks (fun g hg x => (HO8_2.out.ofT hg).ne HA8.out.ofT (by decide) (by exact x)), HO8_3.out.kept hks (fun g hg x => (HO8_3.out.ofT hg).ne HA8.out.ofT (by decide) (by exact x)), HO8_4.out.kept hks (fun g hg x => (HO8_4.out.ofT hg).ne HA8.out.ofT (by decide) (by exact x)), HO8_5.out.kept hks (fun g hg x => (HO8_5.out.ofT hg).ne HA8.out.ofT (by decide) (by exact x)), HO8_6.out.kept hks (fun g hg x => (HO8_6.out.ofT hg).ne HA8.out.ofT (by decide) (by exact x))⟩
                go_wp2_with fail
                go_meet
                exact ⟨ib, rfl, hfin, (HK0.out.then0 HK8.out).trans_ hks (fun i e => .inr (by have e' : i = ib := e; rw [e']; exact HL.out))⟩
            · go_simp
              have hq : Kept S0 u4 (u4.alloc (.cells #[.slice none 0 0, .slice none 0 0, .slice none 0 0, .slice none 0 0, .slice none 0 0, .slice none 0 0, .slice none 0 0, .slice none 0 0, .slice none 0 0] 77)) := (Kept.refl S0 u4).alloc _
              have HA5 := Lib.hid (Blk.new u4 77 #[.slice none 0 0, .slice none 0 0, .slice none 0 0, .slice none 0 0, .slice none 0 0, .slice none 0 0, .slice none 0 0, .slice none 0 0, .slice none 0 0])
              have HL := HW4
              have HW5 := Lib.hid (Nat.le_trans HW4.out hq.size)
              have HK5 := Lib.hid (HK4.out.then0 hq)
              have HO5_0 := Lib.hid (HO4_0.out.kept hq (fun _ _ x => x))
              have HO5_1 := Lib.hid (HO4_1.out.kept hq (fun _ _ x => x))
              have HO5_2 := Lib.hid (HO4_2.out.kept hq (fun _ _ x => x))
              have HO5_3 := Lib.hid (HO4_3.out.kept hq (fun _ _ x => x))
              have hS5 : (u4.alloc (.cells #[.slice none 0 0, .slice none 0 0, .slice none 0 0, .slice none 0 0, .slice none 0 0, .slice none 0 0, .slice none 0 0, .slice none 0 0, .slice none 0 0] 77)).cell? ⟨bx, 1, none⟩ = some (.slice (a.la 0) (a.ln 0) (a.lc 0)) ∧ (u4.alloc (.cells #[.slice none 0 0, .slice none 0 0, .slice none 0 0, .slice none 0 0, .slice none 0 0, .slice none 0 0, .slice none 0 0, .slice none 0 0, .slice none 0 0] 77)).cell? ⟨bx, 2, none⟩ = some (.slice (a.la 1) (a.ln 1) (a.lc 1)) ∧ (u4.alloc (.cells #[.slice none 0 0, .slice none 0 0, .slice none 0 0, .slice none 0 0, .slice none 0 0, .slice none 0 0, .slice none 0 0, .slice none 0 0, .slice none 0 0] 77)).cell? ⟨bx, 3, none⟩ = some (.slice (a.la 2) (a.ln 2) (a.lc 2)) ∧ (u4.alloc (.cells #[.slice none 0 0, .slice none 0 0, .slice none 0 0, .slice none 0 0, .slice none 0 0, .slice none 0 0, .slice none 0 0, .slice none 0 0, .slice none 0 0] 77)).cell? ⟨bx, 4, none⟩ = some (.slice (a.la 3) (a.ln 3) (a.lc 3)) ∧ (u4.alloc (.cells #[.slice none 0 0, .slice none 0 0, .slice none 0 0, .slice none 0 0, .slice none 0 0, .slice none 0 0, .slice none 0 0, .slice none 0 0, .slice none 0 0] 77)).cell? ⟨bx, 5, none⟩ = some (.slice (a.la 4) (a.ln 4) (a.lc 4)) ∧ (u4.alloc (.cells #[.slice none 0 0, .slice none 0 0, .slice none 0 0, .slice none 0 0, .slice none 0 0, .slice none 0 0, .slice none 0 0, .slice none 0 0, .slice none 0 0] 77)).cell? ⟨bx, 6, none⟩ = some (.slice (a.la 5) (a.ln 5) (a.lc 5)) ∧ (u4.alloc (.cells #[.slice none 0 0, .slice none 0 0, .slice none 0 0, .slice none 0 0, .slice none 0 0, .slice none 0 0, .slice none 0 0, .slice none 0 0, .slice none 0 0] 77)).cell? ⟨bx, 8, none⟩ = some (.slice a.ea a.en a.ec) := ⟨keep0 hq hS4.1, keep0 hq hS4.2.1, keep0 hq hS4.2.2.1, keep0 hq hS4.2.2.2.1, keep0 hq hS4.2.2.2.2.1, keep0 hq hS4.2.2.2.2.2.1, keep0 hq hS4.2.2.2.2.2.2⟩
              refine hK.out _ _ (fun _ => hS5) ?_
              clear hK K hS4 hq
              generalize u4.heap.size = ib at *
              generalize (u4.alloc (.cells #[.slice none 0 0, .slice none 0 0, .slice none 0 0, .slice none 0 0, .slice none 0 0, .slice none 0 0, .slice none 0 0, .slice none 0 0, .slice none 0 0] 77)) = u5 at *
              refine wpAnyR_one 14 rfl (by kernel_rfl) (fun K hK => ?_)
              go_simp
              go_at_call 103
              refine (clone_ints (a.la 4) (a.ln 4) (a.lc 4) (intV (a.lf 4)) u5 ((HIN.out.kept HK5.out).l 4 (by omega)) (fun _ _ => rfl)).mono ?_
              rintro e u6 ⟨y4, yc4, rfl, ho, hq⟩
              have HK6 := Lib.hid (HK5.out.then0 hq)
              have HO6_0 := Lib.hid (HO5_0.out.kept hq (fun _ _ x => x))
              have HO6_1 := Lib.hid (HO5_1.out.kept hq (fun _ _ x => x))
              have HO6_2 := Lib.hid (HO5_2.out.kept hq (fun _ _ x => x))
              have HO6_3 := Lib.hid (HO5_3.out.kept hq (fun _ _ x => x))
              have HO6_4 := Lib.hid (ho.mono HW5.out)
              have HW6 := Lib.hid (Nat.le_trans HW5.out hq.size)
              have HA6 := Lib.hid (hq.blk HA5.out (fun x => x))
              have hS6 : u6.cell? ⟨bx, 1, none⟩ = some (.slice (a.la 0) (a.ln 0) (a.lc 0)) ∧ u6.cell? ⟨bx, 2, none⟩ = some (.slice (a.la 1) (a.ln 1) (a.lc 1)) ∧ u6.cell? ⟨bx, 3, none⟩ = some (.slice (a.la 2) (a.ln 2) (a.lc 2)) ∧ u6.cell? ⟨bx, 4, none⟩ = some (.slice (a.la 3) (a.ln 3) (a.lc 3)) ∧ u6.cell? ⟨bx, 5, none⟩ = some (.slice (a.la 4) (a.ln 4) (a.lc 4)) ∧ u6.cell? ⟨bx, 6, none⟩ = some (.slice (a.la 5) (a.ln 5) (a.lc 5)) ∧ u6.cell? ⟨bx, 8, none⟩ = some (.slice a.ea a.en a.ec) := ⟨keep0 hq hS5.1, keep0 hq hS5.2.1, keep0 hq hS5.2.2.1, keep0 hq hS5.2.2.2.1, keep0 hq hS5.2.2.2.2.1, keep0 hq hS5.2.2.2.2.2.1, keep0 hq hS5.2.2.2.2.2.2⟩
              refine hK.out _ _ (fun _ => hS6) ?_
              clear hK K hS5 hq ho
              refine wpAnyR_one 17 rfl (by kernel_rfl) (fun K hK => ?_)
              go_simp
              go_at_call 103
              refine (clone_ints (a.la 5) (a.ln 5) (a.lc 5) (intV (a.lf 5)) u6 ((HIN.out.kept HK6.out).l 5 (by omega)) (fun _ _ => rfl)).mono ?_
              rintro e u7 ⟨y5, yc5, rfl, ho, hq⟩
              have HK7 := Lib.hid (HK6.out.then0 hq)
              have HO7_0 := Lib.hid (HO6_0.out.kept hq (fun _ _ x => x))
              have HO7_1 := Lib.hid (HO6_1.out.kept hq (fun _ _ x => x))
              have HO7_2 := Lib.hid (HO6_2.out.kept hq (fun _ _ x => x))
              have HO7_3 := Lib.hid (HO6_3.out.kept hq (fun _ _ x => x))
              have HO7_4 := Lib.hid (HO6_4.out.kept hq (fun _ _ x => x))
              have HO7_5 := Lib.hid (ho.mono HW6.out)
              have HW7 := Lib.hid (Nat.le_trans HW6.out hq.size)
              have HA7 := Lib.hid (hq.blk HA6.out (fun x => x))
              have hS7 : u7.cell? ⟨bx, 1, none⟩ = some (.slice (a.la 0) (a.ln 0) (a.lc 0)) ∧ u7.cell? ⟨bx, 2, none⟩ = some (.slice (a.la 1) (a.ln 1) (a.lc 1)) ∧ u7.cell? ⟨bx, 3, none⟩ = some (.slice (a.la 2) (a.ln 2) (a.lc 2)) ∧ u7.cell? ⟨bx, 4, none⟩ = some (.slice (a.la 3) (a.ln 3) (a.lc 3)) ∧ u7.cell? ⟨bx, 5, none⟩ = some (.slice (a.la 4) (a.ln 4) (a.lc 4)) ∧ u7.cell? ⟨bx, 6, none⟩ = some (.slice (a.la 5) (a.ln 5) (a.lc 5)) ∧ u7.cell? ⟨bx, 8, none⟩ = some (.slice a.ea a.en a.ec) := ⟨keep0 hq hS6.1, keep0 hq hS6.2.1, keep0 hq hS6.2.2.1, keep0 hq hS6.2.2.2.1, keep0 hq hS6.2.2.2.2.1, keep0 hq hS6.2.2.2.2.2.1, keep0 hq hS6.2.2.2.2.2.2⟩
              refine hK.out _ _ (fun _ => hS7) ?_
              clear hK K hS6 hq ho
              refine wpAnyR_one 20 rfl (by kernel_rfl) (fun K hK => ?_)
              go_simp
              go_at_call 104
              refine (clone_nameds a.ea a.en a.ec a.EF u7 (HIN.out.kept HK7.out).ex HONE.out).mono ?_
              rintro e u8 ⟨y6, yc6, rfl, ho, hq⟩
              have HK8 := Lib.hid (HK7.out.then0 hq)
              have HO8_0 := Lib.hid (HO7_0.out.kept hq (fun _ _ x => x))
              have HO8_1 := Lib.hid (HO7_1.out.kept hq (fun _ _ x => x))
              have HO8_2 := Lib.hid (HO7_2.out.kept hq (fun _ _ x => x))
              have HO8_3 := Lib.hid (HO7_3.out.kept hq (fun _ _ x => x))
              have HO8_4 := Lib.hid (HO7_4.out.kept hq (fun _ _ x => x))
              have HO8_5 := Lib.hid (HO7_5.out.kept hq (fun _ _ x => x))
              have HO8_6 := Lib.hid (ho.mono HW7.out)
              have HW8 := Lib.hid (Nat.le_trans HW7.out hq.size)
              have HA8 := Lib.hid (hq.blk HA7.out (fun x => x))
              have hS8 : u8.cell? ⟨bx, 1, none⟩ = some (.slice (a.la 0) (a.ln 0) (a.lc 0)) ∧ u8.cell? ⟨bx, 2, none⟩ = some (.slice (a.la 1) (a.ln 1) (a.lc 1)) ∧ u8.cell? ⟨bx, 3, none⟩ = some (.slice (a.la 2) (a.ln 2) (a.lc 2)) ∧ u8.cell? ⟨bx, 4, none⟩ = some (.slice (a.la 3) (a.ln 3) (a.lc 3)) ∧ u8.cell? ⟨bx, 5, none⟩ = some (.slice (a.la 4) (a.ln 4) (a.lc 4)) ∧ u8.cell? ⟨bx, 6, none⟩ = some (.slice (a.la 5) (a.ln 5) (a.lc 5)) ∧ u8.cell? ⟨bx, 8, none⟩ = some (.slice a.ea a.en a.ec) := ⟨keep0 hq hS7.1, keep0 hq hS7.2.1, keep0 hq hS7.2.2.1, keep0 hq hS7.2.2.2.1, keep0 hq hS7.2.2.2.2.1, keep0 hq hS7.2.2.2.2.2.1, keep0 hq hS7.2.2.2.2.2.2⟩
              refine hK.out _ _ (fun _ => hS8) ?_
              clear hK K hS7 hq ho
              (first | (refine tkR 21 (v := ?_) rfl hS8 ⟨by rfl, ?_⟩ ?_; rotate_left; intro w h; (try dsimp only at h); first | (go_simp; done) | (go_simp; with_reducible rfl)) | refine skR 21 rfl (fun _ => hS8) (by rfl) ?_); simp only [zq1, zq2, zq3, Act.put, zq4, zq5, zq6]
              have a0 := HA8.out.cell 0
              have b0 := HA8.out.frozen 0
              have a1 := HA8.out.cell 1
              have b1 := HA8.out.frozen 1
              have a2 := HA8.out.cell 2
              have b2 := HA8.out.frozen 2
              have a3 := HA8.out.cell 3
              have b3 := HA8.out.frozen 3
              have a4 := HA8.out.cell 4
              have b4 := HA8.out.frozen 4
              have a5 := HA8.out.cell 5
              have b5 := HA8.out.frozen 5
              have a6 := HA8.out.cell 6
              have b6 := HA8.out.frozen 6
              have a7 := HA8.out.cell 7
              have b7 := HA8.out.frozen 7
              have a8 := HA8.out.cell 8
              have b8 := HA8.out.frozen 8
              refine wpAnyR_one 23 rfl (by kernel_rfl) (fun K hK => ?_)
              go_simp
              refine hK.out _ _ (fun h => absurd h (by decide)) ?_
              clear hK K hS8
              refine wpAnyR_done (by kernel_rfl) ?_ _
              have hks : Kept (S1 ib) u8 (((((((((u8.setCell ⟨ib, 0, none⟩ (.slice none 0 0)).setCell ⟨ib, 1, none⟩ (.slice y0 (a.ln 0) yc0)).setCell ⟨ib, 2, none⟩ (.slice y1 (a.ln 1) yc1)).setCell ⟨ib, 3, none⟩ (.slice y2 (a.ln 2) yc2)).setCell ⟨ib, 4, none⟩ (.slice y3 (a.ln 3) yc3)).setCell ⟨ib, 5, none⟩ (.slice y4 (a.ln 4) yc4)).setCell ⟨ib, 6, none⟩ (.slice y5 (a.ln 5) yc5)).setCell ⟨ib, 7, none⟩ (.slice none 0 0)).setCell ⟨ib, 8, none⟩ (.slice y6 a.en yc6)) := ((((((((((Kept.refl (S1 ib) u8).setCell (p := ⟨ib, 0, none⟩) (.inl rfl) (.slice none 0 0)).setCell (p := ⟨ib, 1, none⟩) (.inl rfl) (.slice y0 (a.ln 0) yc0)).setCell (p := ⟨ib, 2, none⟩) (.inl rfl) (.slice y1 (a.ln 1) yc1)).setCell (p := ⟨ib, 3, none⟩) (.inl rfl) (.slice y2 (a.ln 2) yc2)).setCell (p := ⟨ib, 4, none⟩) (.inl rfl) (.slice y3 (a.ln 3) yc3)).setCell (p := ⟨ib, 5, none⟩) (.inl rfl) (.slice y4 (a.ln 4) yc4)).setCell (p := ⟨ib, 6, none⟩) (.inl rfl) (.slice y5 (a.ln 5) yc5)).setCell (p := ⟨ib, 7, none⟩) (.inl rfl) (.slice none 0 0)).setCell (p := ⟨ib, 8, none⟩) (.inl rfl) (.slice y6 a.en yc6))
              have hfin : InSt (((((((((u8.setCell ⟨ib, 0, none⟩ (.slice none 0 0)).setCell ⟨ib, 1, none⟩ (.slice y0 (a.ln 0) yc0)).setCell ⟨ib, 2, none⟩ (.slice y1 (a.ln 1) yc1)).setCell ⟨ib, 3, none⟩ (.slice y2 (a.ln 2) yc2)).setCell ⟨ib, 4, none⟩ (.slice y3 (a.ln 3) yc3)).setCell ⟨ib, 5, none⟩ (.slice y4 (a.ln 4) yc4)).setCell ⟨ib, 6, none⟩ (.slice y5 (a.ln 5) yc5)).setCell ⟨ib, 7, none⟩ (.slice none 0 0)).setCell ⟨ib, 8, none⟩ (.slice y6 a.en yc6)) wa.heap.size ib a (.slice none 0 0) (.slice none 0 0) := ⟨HL.out, y0, y1, y2, y3, y4, y5, y6, yc0, yc1, yc2, yc3, yc4, yc5, yc6, (((((((((HA8.out.set_ 0 (.slice none 0 0)).set_ 1 (.slice y0 (a.ln 0) yc0)).set_ 2 (.slice y1 (a.ln 1) yc1)).set_ 3 (.slice y2 (a.ln 2) yc2)).set_ 4 (.slice y3 (a.ln 3) yc3)).set_ 5 (.slice y4 (a.ln 4) yc4)).set_ 6 (.slice y5 (a.ln 5) yc5)).set_ 7 (.slice none 0 0)).set_ 8 (.slice y6 a.en yc6)), HO8_0.out.kept hks (fun g hg x => (HO8_0.out.ofT hg).ne HA8.out.ofT (by decide) (by exact x)), HO8_1.out.kept hks (fun g hg x => (HO8_1.out.ofT hg).ne HA8.out.ofT (by decide) (by exact x)), HO8_2.out.kept hks (fun g hg x => (HO8_2.out.ofT hg).ne HA8.out.ofT (by decide) (by exact x)), HO8_3.out.kept hks (fun g hg x => (HO8_3.out.ofT hg).ne HA8.out.ofT (by decide) (by exact x)), HO8_4.out.kept hks (fun g hg x => (HO8_4.out.ofT hg).ne HA8.out.ofT (by decide) (by exact x)), HO8_5.out.kept hks (fun g hg x => (HO8_5.out.ofT hg).ne HA8.out.ofT (by decide) (by exact x)), HO8_6.out.kept hks (fun g hg x => (HO8_6.out.ofT hg).ne HA8.out.ofT (by decide) (by exact x))⟩
              go_wp2_with fail
              go_meet
              exact ⟨ib, rfl, hfin, (HK0.out.then0 HK8.out).trans_ hks (fun i e => .inr (by have e' : i = ib := e; rw [e']; exact HL.out))⟩
          · go_simp
            have hq : Kept S0 u3 (u3.alloc (.cells #[.slice none 0 0, .slice none 0 0, .slice none 0 0, .slice none 0 0, .slice none 0 0, .slice none 0 0, .slice none 0 0, .slice none 0 0, .slice none 0 0] 77)) := (Kept.refl S0 u3).alloc _
            have HA4 := Lib.hid (Blk.new u3 77 #[.slice none 0 0, .slice none 0 0, .slice none 0 0, .slice none 0 0, .slice none 0 0, .slice none 0 0, .slice none 0 0, .slice none 0 0, .slice none 0 0])
            have HL := HW3
            have HW4 := Lib.hid (Nat.le_trans HW3.out hq.size)
            have HK4 := Lib.hid (HK3.out.then0 hq)
            have HO4_0 := Lib.hid (HO3_0.out.kept hq (fun _ _ x => x))
            have HO4_1 := Lib.hid (HO3_1.out.kept hq (fun _ _ x => x))
            have HO4_2 := Lib.hid (HO3_2.out.kept hq (fun _ _ x => x))
            have hS4 : (u3.alloc (.cells #[.slice none 0 0, .slice none 0 0, .slice none 0 0, .slice none 0 0, .slice none 0 0, .slice none 0 0, .slice none 0 0, .slice none 0 0, .slice none 0 0] 77)).cell? ⟨bx, 1, none⟩ = some (.slice (a.la 0) (a.ln 0) (a.lc 0)) ∧ (u3.alloc (.cells #[.slice none 0 0, .slice none 0 0, .slice none 0 0, .slice none 0 0, .slice none 0 0, .slice none 0 0, .slice none 0 0, .slice none 0 0, .slice none 0 0] 77)).cell? ⟨bx, 2, none⟩ = some (.slice (a.la 1) (a.ln 1) (a.lc 1)) ∧ (u3.alloc (.cells #[.slice none 0 0, .slice none 0 0, .slice none 0 0, .slice none 0 0, .slice none 0 0, .slice none 0 0, .slice none 0 0, .slice none 0 0, .slice none 0 0] 77)).cell? ⟨bx, 3, none⟩ = some (.slice (a.la 2) (a.ln 2) (a.lc 2)) ∧ (u3.alloc (.cells #[.slice none 0 0, .slice none 0 0, .slice none 0 0, .slice none 0 0, .slice none 0 0, .slice none 0 0, .slice none 0 0, .slice none 0 0, .slice none 0 0] 77)).cell? ⟨bx, 4, none⟩ = some (.slice (a.la 3) (a.ln 3) (a.lc 3)) ∧ (u3.alloc (.cells #[.slice none 0 0, .slice none 0 0, .slice none 0 0, .slice none 0 0, .slice none 0 0, .slice none 0 0, .slice none 0 0, .slice none 0 0, .slice none 0 0] 77)).cell? ⟨bx, 5, none⟩ = some (.slice (a.la 4) (a.ln 4) (a.lc 4)) ∧ (u3.alloc (.cells #[.slice none 0 0, .slice none 0 0, .slice none 0 0, .slice none 0 0, .slice none 0 0, .slice none 0 0, .slice none 0 0, .slice none 0 0, .slice none 0 0] 77)).cell? ⟨bx, 6, none⟩ = some (.slice (a.la 5) (a.ln 5) (a.lc 5)) ∧ (u3.alloc (.cells #[.slice none 0 0, .slice none 0 0, .slice none 0 0, .slice none 0 0, .slice none 0 0, .slice none 0 0, .slice none 0 0, .slice none 0 0, .slice none 0 0] 77)).cell? ⟨bx, 8, none⟩ = some (.slice a.ea a.en a.ec) := ⟨keep0 hq hS3.1, keep0 hq hS3.2.1, keep0 hq hS3.2.2.1, keep0 hq hS3.2.2.2.1, keep0 hq hS3.2.2.2.2.1, keep0 hq hS3.2.2.2.2.2.1, keep0 hq hS3.2.2.2.2.2.2⟩
            refine hK.out _ _ (fun _ => hS4) ?_
            clear hK K hS3 hq
            generalize u3.heap.size = ib at *
            generalize (u3.alloc (.cells #[.slice none 0 0, .slice none 0 0, .slice none 0 0, .slice none 0 0, .slice none 0 0, .slice none 0 0, .slice none 0 0, .slice none 0 0, .slice none 0 0] 77)) = u4 at *
            refine wpAnyR_one 11 rfl (by kernel_rfl) (fun K hK => ?_)
            go_simp
            go_at_call 103
            refine (clone_ints (a.la 3) (a.ln 3) (a.lc 3) (intV (a.lf 3)) u4 ((HIN.out.kept HK4.out).l 3 (by omega)) (fun _ _ => rfl)).mono ?_
            rintro e u5 ⟨y3, yc3, rfl, ho, hq⟩
            have HK5 := Lib.hid (HK4.out.then0 hq)
            have HO5_0 := Lib.hid (HO4_0.out.kept hq (fun _ _ x => x))
            have HO5_1 := Lib.hid (HO4_1.out.kept hq (fun _ _ x => x))
            have HO5_2 := Lib.hid (HO4_2.out.kept hq (fun _ _ x => x))
            have HO5_3 := Lib.hid (ho.mono HW4.out)
            have HW5 := Lib.hid (Nat.le_trans HW4.out hq.size)
            have HA5 := Lib.hid (hq.blk HA4.out (fun x => x))
            have hS5 : u5.cell? ⟨bx, 1, none⟩ = some (.slice (a.la 0) (a.ln 0) (a.lc 0)) ∧ u5.cell? ⟨bx, 2, none⟩ = some (.slice (a.la 1) (a.ln 1) (a.lc 1)) ∧ u5.cell? ⟨bx, 3, none⟩ = some (.slice (a.la 2) (a.ln 2) (a.lc 2)) ∧ u5.cell? ⟨bx, 4, none⟩ = some (.slice (a.la 3) (a.ln 3) (a.lc 3)) ∧ u5.cell? ⟨bx, 5, none⟩ = some (.slice (a.la 4) (a.ln 4) (a.lc 4)) ∧ u5.cell? ⟨bx, 6, none⟩ = some (.slice (a.la 5) (a.ln 5) (a.lc 5)) ∧ u5.cell? ⟨bx, 8, none⟩ = some (.slice a.ea a.en a.ec) := ⟨keep0 hq hS4.1, keep0 hq hS4.2.1, keep0 hq hS4.2.2.1, keep0 hq hS4.2.2.2.1, keep0 hq hS4.2.2.2.2.1, keep0 hq hS4.2.2.2.2.2.1, keep0 hq hS4.2.2.2.2.2.2⟩
            refine hK.out _ _ (fun _ => hS5) ?_
            clear hK K hS4 hq ho
            refine wpAnyR_one 14 rfl (by kernel_rfl) (fun K hK => ?_)
            go_simp
            go_at_call 103
            refine (clone_ints (a.la 4) (a.ln 4) (a.lc 4) (intV (a.lf 4)) u5 ((HIN.out.kept HK5.out).l 4 (by omega)) (fun _ _ => rfl)).mono ?_
            rintro e u6 ⟨y4, yc4, rfl, ho, hq⟩
            have HK6 := Lib.hid (HK5.out.then0 hq)
            have HO6_0 := Lib.hid (HO5_0.out.kept hq (fun _ _ x => x))
            have HO6_1 := Lib.hid (HO5_1.out.kept hq (fun _ _ x => x))
            have HO6_2 := Lib.hid (HO5_2.out.kept hq (fun _ _ x => x))
            have HO6_3 := Lib.hid (HO5_3.out.kept hq (fun _ _ x => x))
            have HO6_4 := Lib.hid (ho.mono HW5.out)
            have HW6 := Lib.hid (Nat.le_trans HW5.out hq.size)
            have HA6 := Lib.hid (hq.blk HA5.out (fun x => x))
            have hS6 : u6.cell? ⟨bx, 1, none⟩ = some (.slice (a.la 0) (a.ln 0) (a.lc 0)) ∧ u6.cell? ⟨bx, 2, none⟩ = some (.slice (a.la 1) (a.ln 1) (a.lc 1)) ∧ u6.cell? ⟨bx, 3, none⟩ = some (.slice (a.la 2) (a.ln 2) (a.lc 2)) ∧ u6.cell? ⟨bx, 4, none⟩ = some (.slice (a.la 3) (a.ln 3) (a.lc 3)) ∧ u6.cell? ⟨bx, 5, none⟩ = some (.slice (a.la 4) (a.ln 4) (a.lc 4)) ∧ u6.cell? ⟨bx, 6, none⟩ = some (.slice (a.la 5) (a.ln 5) (a.lc 5)) ∧ u6.cell? ⟨bx, 8, none⟩ = some (.slice a.ea a.en a.ec) := ⟨keep0 hq hS5.1, keep0 hq hS5.2.1, keep0 hq hS5.2.2.1, keep0 hq hS5.2.2.2.1, keep0 hq hS5.2.2.2.2.1, keep0 hq hS5.2.2.2.2.2.1, keep0 hq hS5.2.2.2.2.2.2⟩
            refine hK.out _ _ (fun _ => hS6) ?_
            clear hK K hS5 hq ho
            refine wpAnyR_one 17 rfl (by kernel_rfl) (fun K hK => ?_)
            go_simp
            go_at_call 103
            refine (clone_ints (a.la 5) (a.ln 5) (a.lc 5) (intV (a.lf 5)) u6 ((HIN.out.kept HK6.out).l 5 (by omega)) (fun _ _ => rfl)).mono ?_
            rintro e u7 ⟨y5, yc5, rfl, ho, hq⟩
            have HK7 := Lib.hid (HK6.out.then0 hq)
            have HO7_0 := Lib.hid (HO6_0.out.kept hq (fun _ _ x => x))
            have HO7_1 := Lib.hid (HO6_1.out.kept hq (fun _ _ x => x))
            have HO7_2 := Lib.hid (HO6_2.out.kept hq (fun _ _ x => x))
            have HO7_3 := Lib.hid (HO6_3.out.kept hq (fun _ _ x => x))
            have HO7_4 := Lib.hid (HO6_4.out.kept hq (fun _ _ x => x))
            have HO7_5 := Lib.hid (ho.mono HW6.out)
            have HW7 := Lib.hid (Nat.le_trans HW6.out hq.size)
            have HA7 := Lib.hid (hq.blk HA6.out (fun x => x))
            have hS7 : u7.cell? ⟨bx, 1, none⟩ = some (.slice (a.la 0) (a.ln 0) (a.lc 0)) ∧ u7.cell? ⟨bx, 2, none⟩ = some (.slice (a.la 1) (a.ln 1) (a.lc 1)) ∧ u7.cell? ⟨bx, 3, none⟩ = some (.slice (a.la 2) (a.ln 2) (a.lc 2)) ∧ u7.cell? ⟨bx, 4, none⟩ = some (.slice (a.la 3) (a.ln 3) (a.lc 3)) ∧ u7.cell? ⟨bx, 5, none⟩ = some (.slice (a.la 4) (a.ln 4) (a.lc 4)) ∧ u7.cell? ⟨bx, 6, none⟩ = some (.slice (a.la 5) (a.ln 5) (a.lc 5)) ∧ u7.cell? ⟨bx, 8, none⟩ = some (.slice a.ea a.en a.ec) := ⟨keep0 hq hS6.1, keep0 hq hS6.2.1, keep0 hq hS6.2.2.1, keep0 hq hS6.2.2.2.1, keep0 hq hS6.2.2.2.2.1, keep0 hq hS6.2.2.2.2.2.1, keep0 hq hS6.2.2.2.2.2.2⟩
            refine hK.out _ _ (fun _ => hS7) ?_
            clear hK K hS6 hq ho
            refine wpAnyR_one 20 rfl (by kernel_rfl) (fun K hK => ?_)
            go_simp
            go_at_call 104
            refine (clone_nameds a.ea a.en a.ec a.EF u7 (HIN.out.kept HK7.out).ex HONE.out).mono ?_
            rintro e u8 ⟨y6, yc6, rfl, ho, hq⟩
            have HK8 := Lib.hid (HK7.out.then0 hq)
            have HO8_0 := Lib.hid (HO7_0.out.kept hq (fun _ _ x => x))
            have HO8_1 := Lib.hid (HO7_1.out.kept hq (fun _ _ x => x))
            have HO8_2 := Lib.hid (HO7_2.out.kept hq (fun _ _ x => x))
            have HO8_3 := Lib.hid (HO7_3.out.kept hq (fun _ _ x => x))
            have HO8_4 := Lib.hid (HO7_4.out.kept hq (fun _ _ x => x))
            have HO8_5 := Lib.hid (HO7_5.out.kept hq (fun _ _ x => x))
            have HO8_6 := Lib.hid (ho.mono HW7.out)
            have HW8 := Lib.hid (Nat.le_trans HW7.out hq.size)
            have HA8 := Lib.hid (hq.blk HA7.out (fun x => x))
            have hS8 : u8.cell? ⟨bx, 1, none⟩ = some (.slice (a.la 0) (a.ln 0) (a.lc 0)) ∧ u8.cell? ⟨bx, 2, none⟩ = some (.slice (a.la 1) (a.ln 1) (a.lc 1)) ∧ u8.cell? ⟨bx, 3, none⟩ = some (.slice (a.la 2) (a.ln 2) (a.lc 2)) ∧ u8.cell? ⟨bx, 4, none⟩ = some (.slice (a.la 3) (a.ln 3) (a.lc 3)) ∧ u8.cell? ⟨bx, 5, none⟩ = some (.slice (a.la 4) (a.ln 4) (a.lc 4)) ∧ u8.cell? ⟨bx, 6, none⟩ = some (.slice (a.la 5) (a.ln 5) (a.lc 5)) ∧ u8.cell? ⟨bx, 8, none⟩ = some (.slice a.ea a.en a.ec) := ⟨keep0 hq hS7.1, keep0 hq hS7.2.1, keep0 hq hS7.2.2.1, keep0 hq hS7.2.2.2.1, keep0 hq hS7.2.2.2.2.1, keep0 hq hS7.2.2.2.2.2.1, keep0 hq hS7.2.2.2.2.2.2⟩
            refine hK.out _ _ (fun _ => hS8) ?_
            clear hK K hS7 hq ho
            (first | (refine tkR 21 (v := ?_) rfl hS8 ⟨by rfl, ?_⟩ ?_; rotate_left; intro w h; (try dsimp only at h); first | (go_simp; done) | (go_simp; with_reducible rfl)) | refine skR 21 rfl (fun _ => hS8) (by rfl) ?_); simp only [zq1, zq2, zq3, Act.put, zq4, zq5, zq6]
            have a0 := HA8.out.cell 0
            have b0 := HA8.out.frozen 0
            have a1 := HA8.out.cell 1
            have b1 := HA8.out.frozen 1
            have a2 := HA8.out.cell 2
            have b2 := HA8.out.frozen 2
            have a3 := HA8.out.cell 3
            have b3 := HA8.out.frozen 3
            have a4 := HA8.out.cell 4
            have b4 := HA8.out.frozen 4
            have a5 := HA8.out.cell 5
            have b5 := HA8.out.frozen 5
            have a6 := HA8.out.cell 6
            have b6 := HA8.out.frozen 6
            have a7 := HA8.out.cell 7
            have b7 := HA8.out.frozen 7
            have a8 := HA8.out.cell 8
            have b8 := HA8.out.frozen 8
            refine wpAnyR_one 23 rfl (by kernel_rfl) (fun K hK => ?_)
            go_simp
            refine hK.out _ _ (fun h => absurd h (by decide)) ?_
            clear hK K hS8
            refine wpAnyR_done (by kernel_rfl) ?_ _
            have hks : Kept (S1 ib) u8 (((((((((u8.setCell ⟨ib, 0, none⟩ (.slice none 0 0)).setCell ⟨ib, 1, none⟩ (.slice y0 (a.ln 0) yc0)).setCell ⟨ib, 2, none⟩ (.slice y1 (a.ln 1) yc1)).setCell ⟨ib, 3, none⟩ (.slice y2 (a.ln 2) yc2)).setCell ⟨ib, 4, none⟩ (.slice y3 (a.ln 3) yc3)).setCell ⟨ib, 5, none⟩ (.slice y4 (a.ln 4) yc4)).setCell ⟨ib, 6, none⟩ (.slice y5 (a.ln 5) yc5)).setCell ⟨ib, 7, none⟩ (.slice none 0 0)).setCell ⟨ib, 8, none⟩ (.slice y6 a.en yc6)) := ((((((((((Kept.refl (S1 ib) u8).setCell (p := ⟨ib, 0, none⟩) (.inl rfl) (.slice none 0 0)).setCell (p := ⟨ib, 1, none⟩) (.inl rfl) (.slice y0 (a.ln 0) yc0)).setCell (p := ⟨ib, 2, none⟩) (.inl rfl) (.slice y1 (a.ln 1) yc1)).setCell (p := ⟨ib, 3, none⟩) (.inl rfl) (.slice y2 (a.ln 2) yc2)).setCell (p := ⟨ib, 4, none⟩) (.inl rfl) (.slice y3 (a.ln 3) yc3)).setCell (p := ⟨ib, 5, none⟩) (.inl rfl) (.slice y4 (a.ln 4) yc4)).setCell (p := ⟨ib, 6, none⟩) (.inl rfl) (.slice y5 (a.ln 5) yc5)).setCell (p := ⟨ib, 7, none⟩) (.inl rfl) (.slice none 0 0)).setCell (p := ⟨ib, 8, none⟩) (.inl rfl) (.slice y6 a.en yc6))
            have hfin : InSt (((((((((u8.setCell ⟨ib, 0, none⟩ (.slice none 0 0)).setCell ⟨ib, 1, none⟩ (.slice y0 (a.ln 0) yc0)).setCell ⟨ib, 2, none⟩ (.slice y1 (a.ln 1) yc1)).setCell ⟨ib, 3, none⟩ (.slice y2 (a.ln 2) yc2)).setCell ⟨ib, 4, none⟩ (.slice y3 (a.ln 3) yc3)).setCell ⟨ib, 5, none⟩ (.slice y4 (a.ln 4) yc4)).setCell ⟨ib, 6, none⟩ (.slice y5 (a.ln 5) yc5)).setCell ⟨ib, 7, none⟩ (.slice none 0 0)).setCell ⟨ib, 8, none⟩ (.slice y6 a.en yc6)) wa.heap.size ib a (.slice none 0 0) (.slice none 0 0) := ⟨HL.out, y0, y1, y2, y3, y4, y5, y6, yc0, yc1, yc2, yc3, yc4, yc5, yc6, (((((((((HA8.out.set_ 0 (.slice none 0 0)).set_ 1 (.slice y0 (a.ln 0) yc0)).set_ 2 (.slice y1 (a.ln 1) yc1)).set_ 3 (.slice y2 (a.ln 2) yc2)).set_ 4 (.slice y3 (a.ln 3) yc3)).set_ 5 (.slice y4 (a.ln 4) yc4)).set_ 6 (.slice y5 (a.ln 5) yc5)).set_ 7 (.slice none 0 0)).set_ 8 (.slice y6 a.en yc6)), HO8_0.out.kept hks (fun g hg x => (HO8_0.out.ofT hg).ne HA8.out.ofT (by decide) (by exact x)), HO8_1.out.kept hks (fun g hg x => (HO8_1.out.ofT hg).ne HA8.out.ofT (by decide) (by exact x)), HO8_2.out.kept hks (fun g hg x => (HO8_2.out.ofT hg).ne HA8.out.ofT (by decide) (by exact x)), HO8_3.out.kept hks (fun g hg x => (HO8_3.out.ofT hg).ne HA8.out.ofT (by decide) (by exact x)), HO8_4.out.kept hks (fun g hg x => (HO8_4.out.ofT hg).ne HA8.out.ofT (by decide) (by exact x)), HO8_5.out.kept hks (fun g hg x => (HO8_5.out.ofT hg).ne HA8.out.ofT (by decide) (by exact x)), HO8_6.out.kept hks (fun g hg x => (HO8_6.out.ofT hg).ne HA8.out.ofT (by decide) (by exact x))⟩
            go_wp2_with fail
            go_meet
            exact ⟨ib, rfl, hfin, (HK0.out.then0 HK8.out).trans_ hks (fun i e => .inr (by have e' : i = ib := e; rw [e']; exact HL.out))⟩
        · go_simp
          have hq : Kept S0 u2 (u2.alloc (.cells #[.slice none 0 0, .slice none 0 0, .slice none 0 0, .slice none 0 0, .slice none 0 0, .slice none 0 0, .slice none 0 0, .slice none 0 0, .slice none 0 0] 77)) := (Kept.refl S0 u2).alloc _
          have HA3 := Lib.hid (Blk.new u2 77 #[.slice none 0 0, .slice none 0 0, .slice none 0 0, .slice none 0 0, .slice none 0 0, .slice none 0 0, .slice none 0 0, .slice none 0 0, .slice none 0 0])
          have HL := HW2
          have HW3 := Lib.hid (Nat.le_trans HW2.out hq.size)
          have HK3 := Lib.hid (HK2.out.then0 hq)
          have HO3_0 := Lib.hid (HO2_0.out.kept hq (fun _ _ x => x))
          have HO3_1 := Lib.hid (HO2_1.out.kept hq (fun _ _ x => x))
          have hS3 : (u2.alloc (.cells #[.slice none 0 0, .slice none 0 0, .slice none 0 0, .slice none 0 0, .slice none 0 0, .slice none 0 0, .slice none 0 0, .slice none 0 0, .slice none 0 0] 77)).cell? ⟨bx, 1, none⟩ = some (.slice (a.la 0) (a.ln 0) (a.lc 0)) ∧ (u2.alloc (.cells #[.slice none 0 0, .slice none 0 0, .slice none 0 0, .slice none 0 0, .slice none 0 0, .slice none 0 0, .slice none 0 0, .slice none 0 0, .slice none 0 0] 77)).cell? ⟨bx, 2, none⟩ = some (.slice (a.la 1) (a.ln 1) (a.lc 1)) ∧ (u2.alloc (.cells #[.slice none 0 0, .slice none 0 0, .slice none 0 0, .slice none 0 0, .slice none 0 0, .slice none 0 0, .slice none 0 0, .slice none 0 0, .slice none 0 0] 77)).cell? ⟨bx, 3, none⟩ = some (.slice (a.la 2) (a.ln 2) (a.lc 2)) ∧ (u2.alloc (.cells #[.slice none 0 0, .slice none 0 0, .slice none 0 0, .slice none 0 0, .slice none 0 0, .slice none 0 0, .slice none 0 0, .slice none 0 0, .slice none 0 0] 77)).cell? ⟨bx, 4, none⟩ = some (.slice (a.la 3) (a.ln 3) (a.lc 3)) ∧ (u2.alloc (.cells #[.slice none 0 0, .slice none 0 0, .slice none 0 0, .slice none 0 0, .slice none 0 0, .slice none 0 0, .slice none 0 0, .slice none 0 0, .slice none 0 0] 77)).cell? ⟨bx, 5, none⟩ = some (.slice (a.la 4) (a.ln 4) (a.lc 4)) ∧ (u2.alloc (.cells #[.slice none 0 0, .slice none 0 0, .slice none 0 0, .slice none 0 0, .slice none 0 0, .slice none 0 0, .slice none 0 0, .slice none 0 0, .slice none 0 0] 77)).cell? ⟨bx, 6, none⟩ = some (.slice (a.la 5) (a.ln 5) (a.lc 5)) ∧ (u2.alloc (.cells #[.slice none 0 0, .slice none 0 0, .slice none 0 0, .slice none 0 0, .slice none 0 0, .slice none 0 0, .slice none 0 0, .slice none 0 0, .slice none 0 0] 77)).cell? ⟨bx, 8, none⟩ = some (.slice a.ea a.en a.ec) := ⟨keep0 hq hS2.1, keep0 hq hS2.2.1, keep0 hq hS2.2.2.1, keep0 hq hS2.2.2.2.1, keep0 hq hS2.2.2.2.2.1, keep0 hq hS2.2.2.2.2.2.1, keep0 hq hS2.2.2.2.2.2.2⟩
          refine hK.out _ _ (fun _ => hS3) ?_
          clear hK K hS2 hq
          generalize u2.heap.size = ib at *
          generalize (u2.alloc (.cells #[.slice none 0 0, .slice none 0 0, .slice none 0 0, .slice none 0 0, .slice none 0 0, .slice none 0 0, .slice none 0 0, .slice none 0 0, .slice none 0 0] 77)) = u3 at *
          refine wpAnyR_one 8 rfl (by kernel_rfl) (fun K hK => ?_)
          go_simp
          go_at_call 103
          refine (clone_ints (a.la 2) (a.ln 2) (a.lc 2) (intV (a.lf 2)) u3 ((HIN.out.kept HK3.out).l 2 (by omega)) (fun _ _ => rfl)).mono ?_
          rintro e u4 ⟨y2, yc2, rfl, ho, hq⟩
          have HK4 := Lib.hid (HK3.out.then0 hq)
          have HO4_0 := Lib.hid (HO3_0.out.kept hq (fun _ _ x => x))
          have HO4_1 := Lib.hid (HO3_1.out.kept hq (fun _ _ x => x))
          have HO4_2 := Lib.hid (ho.mono HW3.out)
          have HW4 := Lib.hid (Nat.le_trans HW3.out hq.size)
          have HA4 := Lib.hid (hq.blk HA3.out (fun x => x))
          have hS4 : u4.cell? ⟨bx, 1, none⟩ = some (.slice (a.la 0) (a.ln 0) (a.lc 0)) ∧ u4.cell? ⟨bx, 2, none⟩ = some (.slice (a.la 1) (a.ln 1) (a.lc 1)) ∧ u4.cell? ⟨bx, 3, none⟩ = some (.slice (a.la 2) (a.ln 2) (a.lc 2)) ∧ u4.cell? ⟨bx, 4, none⟩ = some (.slice (a.la 3) (a.ln 3) (a.lc 3)) ∧ u4.cell? ⟨bx, 5, none⟩ = some (.slice (a.la 4) (a.ln 4) (a.lc 4)) ∧ u4.cell? ⟨bx, 6, none⟩ = some (.slice (a.la 5) (a.ln 5) (a.lc 5)) ∧ u4.cell? ⟨bx, 8, none⟩ = some (.slice a.ea a.en a.ec) := ⟨keep0 hq hS3.1, keep0 hq hS3.2.1, keep0 hq hS3.2.2.1, keep0 hq hS3.2.2.2.1, keep0 hq hS3.2.2.2.2.1, keep0 hq hS3.2.2.2.2.2.1, keep0 hq hS3.2.2.2.2.2.2⟩
          refine hK.out _ _ (fun _ => hS4) ?_
          clear hK K hS3 hq ho
          refine wpAnyR_one 11 rfl (by kernel_rfl) (fun K hK => ?_)
          go_simp
          go_at_call 103
          refine (clone_ints (a.la 3) (a.ln 3) (a.lc 3) (intV (a.lf 3)) u4 ((HIN.out.kept HK4.out).l 3 (by omega)) (fun _ _ => rfl)).mono ?_
          rintro e u5 ⟨y3, yc3, rfl, ho, hq⟩
          have HK5 := Lib.hid (HK4.out.then0 hq)
          have HO5_0 := Lib.hid (HO4_0.out.kept hq (fun _ _ x => x))
          have HO5_1 := Lib.hid (HO4_1.out.kept hq (fun _ _ x => x))
          have HO5_2 := Lib.hid (HO4_2.out.kept hq (fun _ _ x => x))
          have HO5_3 := Lib.hid (ho.mono HW4.out)
          have HW5 := Lib.hid (Nat.le_trans HW4.out hq.size)
          have HA5 := Lib.hid (hq.blk HA4.out (fun x => x))
          have hS5 : u5.cell? ⟨bx, 1, none⟩ = some (.slice (a.la 0) (a.ln 0) (a.lc 0)) ∧ u5.cell? ⟨bx, 2, none⟩ = some (.slice (a.la 1) (a.ln 1) (a.lc 1)) ∧ u5.cell? ⟨bx, 3, none⟩ = some (.slice (a.la 2) (a.ln 2) (a.lc 2)) ∧ u5.cell? ⟨bx, 4, none⟩ = some (.slice (a.la 3) (a.ln 3) (a.lc 3)) ∧ u5.cell? ⟨bx, 5, none⟩ = some (.slice (a.la 4) (a.ln 4) (a.lc 4)) ∧ u5.cell? ⟨bx, 6, none⟩ = some (.slice (a.la 5) (a.ln 5) (a.lc 5)) ∧ u5.cell? ⟨bx, 8, none⟩ = some (.slice a.ea a.en a.ec) := ⟨keep0 hq hS4.1, keep0 hq hS4.2.1, keep0 hq hS4.2.2.1, keep0 hq hS4.2.2.2.1, keep0 hq hS4.2.2.2.2.1, keep0 hq hS4.2.2.2.2.2.1, keep0 hq hS4.2.2.2.2.2.2⟩
          refine hK.out _ _ (fun _ => hS5) ?_
          clear hK K hS4 hq ho
          refine wpAnyR_one 14 rfl (by kernel_rfl) (fun K hK => ?_)
          go_simp
          go_at_call 103
          refine (clone_ints (a.la 4) (a.ln 4) (a.lc 4) (intV (a.lf 4)) u5 ((HIN.out.kept HK5.out).l 4 (by omega)) (fun _ _ => rfl)).mono ?_
          rintro e u6 ⟨y4, yc4, rfl, ho, hq⟩
          have HK6 := Lib.hid (HK5.out.then0 hq)
          have HO6_0 := Lib.hid (HO5_0.out.kept hq (fun _ _ x => x))
          have HO6_1 := Lib.hid (HO5_1.out.kept hq (fun _ _ x => x))
          have HO6_2 := Lib.hid (HO5_2.out.kept hq (fun _ _ x => x))
          have HO6_3 := Lib.hid (HO5_3.out.kept hq (fun _ _ x => x))
          have HO6_4 := Lib.hid (ho.mono HW5.out)
          have HW6 := Lib.hid (Nat.le_trans HW5.out hq.size)
          have HA6 := Lib.hid (hq.blk HA5.out (fun x => x))
          have hS6 : u6.cell? ⟨bx, 1, none⟩ = some (.slice (a.la 0) (a.ln 0) (a.lc 0)) ∧ u6.cell? ⟨bx, 2, none⟩ = some (.slice (a.la 1) (a.ln 1) (a.lc 1)) ∧ u6.cell? ⟨bx, 3, none⟩ = some (.slice (a.la 2) (a.ln 2) (a.lc 2)) ∧ u6.cell? ⟨bx, 4, none⟩ = some (.slice (a.la 3) (a.ln 3) (a.lc 3)) ∧ u6.cell? ⟨bx, 5, none⟩ = some (.slice (a.la 4) (a.ln 4) (a.lc 4)) ∧ u6.cell? ⟨bx, 6, none⟩ = some (.slice (a.la 5) (a.ln 5) (a.lc 5)) ∧ u6.cell? ⟨bx, 8, none⟩ = some (.slice a.ea a.en a.ec) := ⟨keep0 hq hS5.1, keep0 hq hS5.2.1, keep0 hq hS5.2.2.1, keep0 hq hS5.2.2.2.1, keep0 hq hS5.2.2.2.2.1, keep0 hq hS5.2.2.2.2.2.1, keep0 hq hS5.2.2.2.2.2.2⟩
          refine hK.out _ _ (fun _ => hS6) ?_
          clear hK K hS5 hq ho
          refine wpAnyR_one 17 rfl (by kernel_rfl) (fun K hK => ?_)
          go_simp
          go_at_call 103
          refine (clone_ints (a.la 5) (a.ln 5) (a.lc 5) (intV (a.lf 5)) u6 ((HIN.out.kept HK6.out).l 5 (by omega)) (fun _ _ => rfl)).mono ?_
          rintro e u7 ⟨y5, yc5, rfl, ho, hq⟩
          have HK7 := Lib.hid (HK6.out.then0 hq)
          have HO7_0 := Lib.hid (HO6_0.out.kept hq (fun _ _ x => x))
          have HO7_1 := Lib.hid (HO6_1.out.kept hq (fun _ _ x => x))
          have HO7_2 := Lib.hid (HO6_2.out.kept hq (fun _ _ x => x))
          have HO7_3 := Lib.hid (HO6_3.out.kept hq (fun _ _ x => x))
          have HO7_4 := Lib.hid (HO6_4.out.kept hq (fun _ _ x => x))
          have HO7_5 := Lib.hid (ho.mono HW6.out)
          have HW7 := Lib.hid (Nat.le_trans HW6.out hq.size)
          have HA7 := Lib.hid (hq.blk HA6.out (fun x => x))
          have hS7 : u7.cell? ⟨bx, 1, none⟩ = some (.slice (a.la 0) (a.ln 0) (a.lc 0)) ∧ u7.cell? ⟨bx, 2, none⟩ = some (.slice (a.la 1) (a.ln 1) (a.lc 1)) ∧ u7.cell? ⟨bx, 3, none⟩ = some (.slice (a.la 2) (a.ln 2) (a.lc 2)) ∧ u7.cell? ⟨bx, 4, none⟩ = some (.slice (a.la 3) (a.ln 3) (a.lc 3)) ∧ u7.cell? ⟨bx, 5, none⟩ = some (.slice (a.la 4) (a.ln 4) (a.lc 4)) ∧ u7.cell? ⟨bx, 6, none⟩ = some (.slice (a.la 5) (a.ln 5) (a.lc 5)) ∧ u7.cell? ⟨bx, 8, none⟩ = some (.slice a.ea a.en a.ec) := ⟨keep0 hq hS6.1, keep0 hq hS6.2.1, keep0 hq hS6.2.2.1, keep0 hq hS6.2.2.2.1, keep0 hq hS6.2.2.2.2.1, keep0 hq hS6.2.2.2.2.2.1, keep0 hq hS6.2.2.2.2.2.2⟩
          refine hK.out _ _ (fun _ => hS7) ?_
          clear hK K hS6 hq ho
          refine wpAnyR_one 20 rfl (by kernel_rfl) (fun K hK => ?_)
          go_simp
          go_at_call 104
          refine (clone_nameds a.ea a.en a.ec a.EF u7 (HIN.out.kept HK7.out).ex HONE.out).mono ?_
          rintro e u8 ⟨y6, yc6, rfl, ho, hq⟩
          have HK8 := Lib.hid (HK7.out.then0 hq)
          have HO8_0 := Lib.hid (HO7_0.out.kept hq (fun _ _ x => x))
          have HO8_1 := Lib.hid (HO7_1.out.kept hq (fun _ _ x => x))
          have HO8_2 := Lib.hid (HO7_2.out.kept hq (fun _ _ x => x))
          have HO8_3 := Lib.hid (HO7_3.out.kept hq (fun _ _ x => x))
          have HO8_4 := Lib.hid (HO7_4.out.kept hq (fun _ _ x => x))
          have HO8_5 := Lib.hid (HO7_5.out.kept hq (fun _ _ x => x))
          have HO8_6 := Lib.hid (ho.mono HW7.out)
          have HW8 := Lib.hid (Nat.le_trans HW7.out hq.size)
          have HA8 := Lib.hid (hq.blk HA7.out (fun x => x))
          have hS8 : u8.cell? ⟨bx, 1, none⟩ = some (.slice (a.la 0) (a.ln 0) (a.lc 0)) ∧ u8.cell? ⟨bx, 2, none⟩ = some (.slice (a.la 1) (a.ln 1) (a.lc 1)) ∧ u8.cell? ⟨bx, 3, none⟩ = some (.slice (a.la 2) (a.ln 2) (a.lc 2)) ∧ u8.cell? ⟨bx, 4, none⟩ = some (.slice (a.la 3) (a.ln 3) (a.lc 3)) ∧ u8.cell? ⟨bx, 5, none⟩ = some (.slice (a.la 4) (a.ln 4) (a.lc 4)) ∧ u8.cell? ⟨bx, 6, none⟩ = some (.slice (a.la 5) (a.ln 5) (a.lc 5)) ∧ u8.cell? ⟨bx, 8, none⟩ = some (.slice a.ea a.en a.ec) := ⟨keep0 hq hS7.1, keep0 hq hS7.2.1, keep0 hq hS7.2.2.1, keep0 hq hS7.2.2.2.1, keep0 hq hS7.2.2.2.2.1, keep0 hq hS7.2.2.2.2.2.1, keep0 hq hS7.2.2.2.2.2.2⟩
          refine hK.out _ _ (fun _ => hS8) ?_
          clear hK K hS7 hq ho
          (first | (refine tkR 21 (v := ?_) rfl hS8 ⟨by rfl, ?_⟩ ?_; rotate_left; intro w h; (try dsimp only at h); first | (go_simp; done) | (go_simp; with_reducible rfl)) | refine skR 21 rfl (fun _ => hS8) (by rfl) ?_); simp only [zq1, zq2, zq3, Act.put, zq4, zq5, zq6]
          have a0 := HA8.out.cell 0
          have b0 := HA8.out.frozen 0
          have a1 := HA8.out.cell 1
          have b1 := HA8.out.frozen 1
          have a2 := HA8.out.cell 2
          have b2 := HA8.out.frozen 2
          have a3 := HA8.out.cell 3
          have b3 := HA8.out.frozen 3
          have a4 := HA8.out.cell 4
          have b4 := HA8.out.frozen 4
          have a5 := HA8.out.cell 5
          have b5 := HA8.out.frozen 5
          have a6 := HA8.out.cell 6
          have b6 := HA8.out.frozen 6
          have a7 := HA8.out.cell 7
          have b7 := HA8.out.frozen 7
          have a8 := HA8.out.cell 8
          have b8 := HA8.out.frozen 8
          refine wpAnyR_one 23 rfl (by kernel_rfl) (fun K hK => ?_)
          go_simp
          refine hK.out _ _ (fun h => absurd h (by decide)) ?_
          clear hK K hS8
          refine wpAnyR_done (by kernel_rfl) ?_ _
          have hks : Kept (S1 ib) u8 (((((((((u8.setCell ⟨ib, 0, none⟩ (.slice none 0 0)).setCell ⟨ib, 1, none⟩ (.slice y0 (a.ln 0) yc0)).setCell ⟨ib, 2, none⟩ (.slice y1 (a.ln 1) yc1)).setCell ⟨ib, 3, none⟩ (.slice y2 (a.ln 2) yc2)).setCell ⟨ib, 4, none⟩ (.slice y3 (a.ln 3) yc3)).setCell ⟨ib, 5, none⟩ (.slice y4 (a.ln 4) yc4)).setCell ⟨ib, 6, none⟩ (.slice y5 (a.ln 5) yc5)).setCell ⟨ib, 7, none⟩ (.slice none 0 0)).setCell ⟨ib, 8, none⟩ (.slice y6 a.en yc6)) := ((((((((((Kept.refl (S1 ib) u8).setCell (p := ⟨ib, 0, none⟩) (.inl rfl) (.slice none 0 0)).setCell (p := ⟨ib, 1, none⟩) (.inl rfl) (.slice y0 (a.ln 0) yc0)).setCell (p := ⟨ib, 2, none⟩) (.inl rfl) (.slice y1 (a.ln 1) yc1)).setCell (p := ⟨ib, 3, none⟩) (.inl rfl) (.slice y2 (a.ln 2) yc2)).setCell (p := ⟨ib, 4, none⟩) (.inl rfl) (.slice y3 (a.ln 3) yc3)).setCell (p := ⟨ib, 5, none⟩) (.inl rfl) (.slice y4 (a.ln 4) yc4)).setCell (p := ⟨ib, 6, none⟩) (.inl rfl) (.slice y5 (a.ln 5) yc5)).setCell (p := ⟨ib, 7, none⟩) (.inl rfl) (.slice none 0 0)).setCell (p := ⟨ib, 8, none⟩) (.inl rfl) (.slice y6 a.en yc6))
          have hfin : InSt (((((((((u8.setCell ⟨ib, 0, none⟩ (.slice none 0 0)).setCell ⟨ib, 1, none⟩ (.slice y0 (a.ln 0) yc0)).setCell ⟨ib, 2, none⟩ (.slice y1 (a.ln 1) yc1)).setCell ⟨ib, 3, none⟩ (.slice y2 (a.ln 2) yc2)).setCell ⟨ib, 4, none⟩ (.slice y3 (a.ln 3) yc3)).setCell ⟨ib, 5, none⟩ (.slice y4 (a.ln 4) yc4)).setCell ⟨ib, 6, none⟩ (.slice y5 (a.ln 5) yc5)).setCell ⟨ib, 7, none⟩ (.slice none 0 0)).setCell ⟨ib, 8, none⟩ (.slice y6 a.en yc6)) wa.heap.size ib a (.slice none 0 0) (.slice none 0 0) := ⟨HL.out, y0, y1, y2, y3, y4, y5, y6, yc0, yc1, yc2, yc3, yc4, yc5, yc6, (((((((((HA8.out.set_ 0 (.slice none 0 0)).set_ 1 (.slice y0 (a.ln 0) yc0)).set_ 2 (.slice y1 (a.ln 1) yc1)).set_ 3 (.slice y2 (a.ln 2) yc2)).set_ 4 (.slice y3 (a.ln 3) yc3)).set_ 5 (.slice y4 (a.ln 4) yc4)).set_ 6 (.slice y5 (a.ln 5) yc5)).set_ 7 (.slice none 0 0)).set_ 8 (.slice y6 a.en yc6)), HO8_0.out.kept hks (fun g hg x => (HO8_0.out.ofT hg).ne HA8.out.ofT (by decide) (by exact x)), HO8_1.out.kept hks (fun g hg x => (HO8_1.out.ofT hg).ne HA8.out.ofT (by decide) (by exact x)), HO8_2.out.kept hks (fun g hg x => (HO8_2.out.ofT hg).ne HA8.out.ofT (by decide) (by exact x)), HO8_3.out.kept hks (fun g hg x => (HO8_3.out.ofT hg).ne HA8.out.ofT (by decide) (by exact x)), HO8_4.out.kept hks (fun g hg x => (HO8_4.out.ofT hg).ne HA8.out.ofT (by decide) (by exact x)), HO8_5.out.kept hks (fun g hg x => (HO8_5.out.ofT hg).ne HA8.out.ofT (by decide) (by exact x)), HO8_6.out.kept hks (fun g hg x => (HO8_6.out.ofT hg).ne HA8.out.ofT (by decide) (by exact x))⟩
          go_wp2_with fail
          go_meet
          exact ⟨ib, rfl, hfin, (HK0.out.then0 HK8.out).trans_ hks (fun i e => .inr (by have e' : i = ib := e; rw [e']; exact HL.out))⟩
      · go_simp
        have hq : Kept S0 u1 (u1.alloc (.cells #[.slice none 0 0, .slice none 0 0, .slice none 0 0, .slice none 0 0, .slice none 0 0, .slice none 0 0, .slice none 0 0, .slice none 0 0, .slice none 0 0] 77)) := (Kept.refl S0 u1).alloc _
        have HA2 := Lib.hid (Blk.new u1 77 #[.slice none 0 0, .slice none 0 0, .slice none 0 0, .slice none 0 0, .slice none 0 0, .slice none 0 0, .slice none 0 0, .slice none 0 0, .slice none 0 0])
        have HL := HW1
        have HW2 := Lib.hid (Nat.le_trans HW1.out hq.size)
        have HK2 := Lib.hid (HK1.out.then0 hq)
        have HO2_0 := Lib.hid (HO1_0.out.kept hq (fun _ _ x => x))
        have hS2 : (u1.alloc (.cells #[.slice none 0 0, .slice none 0 0, .slice none 0 0, .slice none 0 0, .slice none 0 0, .slice none 0 0, .slice none 0 0, .slice none 0 0, .slice none 0 0] 77)).cell? ⟨bx, 1, none⟩ = some (.slice (a.la 0) (a.ln 0) (a.lc 0)) ∧ (u1.alloc (.cells #[.slice none 0 0, .slice none 0 0, .slice none 0 0, .slice none 0 0, .slice none 0 0, .slice none 0 0, .slice none 0 0, .slice none 0 0, .slice none 0 0] 77)).cell? ⟨bx, 2, none⟩ = some (.slice (a.la 1) (a.ln 1) (a.lc 1)) ∧ (u1.alloc (.cells #[.slice none 0 0, .slice none 0 0, .slice none 0 0, .slice none 0 0, .slice none 0 0, .slice none 0 0, .slice none 0 0, .slice none 0 0, .slice none 0 0] 77)).cell? ⟨bx, 3, none⟩ = some (.slice (a.la 2) (a.ln 2) (a.lc 2)) ∧ (u1.alloc (.cells #[.slice none 0 0, .slice none 0 0, .slice none 0 0, .slice none 0 0, .slice none 0 0, .slice none 0 0, .slice none 0 0, .slice none 0 0, .slice none 0 0] 77)).cell? ⟨bx, 4, none⟩ = some (.slice (a.la 3) (a.ln 3) (a.lc 3)) ∧ (u1.alloc (.cells #[.slice none 0 0, .slice none 0 0, .slice none 0 0, .slice none 0 0, .slice none 0 0, .slice none 0 0, .slice none 0 0, .slice none 0 0, .slice none 0 0] 77)).cell? ⟨bx, 5, none⟩ = some (.slice (a.la 4) (a.ln 4) (a.lc 4)) ∧ (u1.alloc (.cells #[.slice none 0 0, .slice none 0 0, .slice none 0 0, .slice none 0 0, .slice none 0 0, .slice none 0 0, .slice none 0 0, .slice none 0 0, .slice none 0 0] 77)).cell? ⟨bx, 6, none⟩ = some (.slice (a.la 5) (a.ln 5) (a.lc 5)) ∧ (u1.alloc (.cells #[.slice none 0 0, .slice none 0 0, .slice none 0 0, .slice none 0 0, .slice none 0 0, .slice none 0 0, .slice none 0 0, .slice none 0 0, .slice none 0 0] 77)).cell? ⟨bx, 8, none⟩ = some (.slice a.ea a.en a.ec) := ⟨keep0 hq hS1.1, keep0 hq hS1.2.1, keep0 hq hS1.2.2.1, keep0 hq hS1.2.2.2.1, keep0 hq hS1.2.2.2.2.1, keep0 hq hS1.2.2.2.2.2.1, keep0 hq hS1.2.2.2.2.2.2⟩
        refine hK.out _ _ (fun _ => hS2) ?_
        clear hK K hS1 hq
        generalize u1.heap.size = ib at *
        generalize (u1.alloc (.cells #[.slice none 0 0, .slice none 0 0, .slice none 0 0, .slice none 0 0, .slice none 0 0, .slice none 0 0, .slice none 0 0, .slice none 0 0, .slice none 0 0] 77)) = u2 at *
        refine wpAnyR_one 5 rfl (by kernel_rfl) (fun K hK => ?_)
        go_simp
        go_at_call 103
        refine (clone_ints (a.la 1) (a.ln 1) (a.lc 1) (intV (a.lf 1)) u2 ((HIN.out.kept HK2.out).l 1 (by omega)) (fun _ _ => rfl)).mono ?_
        rintro e u3 ⟨y1, yc1, rfl, ho, hq⟩
        have HK3 := Lib.hid (HK2.out.then0 hq)
        have HO3_0 := Lib.hid (HO2_0.out.kept hq (fun _ _ x => x))
        have HO3_1 := Lib.hid (ho.mono HW2.out)
        have HW3 := Lib.hid (Nat.le_trans HW2.out hq.size)
        have HA3 := Lib.hid (hq.blk HA2.out (fun x => x))
        have hS3 : u3.cell? ⟨bx, 1, none⟩ = some (.slice (a.la 0) (a.ln 0) (a.lc 0)) ∧ u3.cell? ⟨bx, 2, none⟩ = some (.slice (a.la 1) (a.ln 1) (a.lc 1)) ∧ u3.cell? ⟨bx, 3, none⟩ = some (.slice (a.la 2) (a.ln 2) (a.lc 2)) ∧ u3.cell? ⟨bx, 4, none⟩ = some (.slice (a.la 3) (a.ln 3) (a.lc 3)) ∧ u3.cell? ⟨bx, 5, none⟩ = some (.slice (a.la 4) (a.ln 4) (a.lc 4)) ∧ u3.cell? ⟨bx, 6, none⟩ = some (.slice (a.la 5) (a.ln 5) (a.lc 5)) ∧ u3.cell? ⟨bx, 8, none⟩ = some (.slice a.ea a.en a.ec) := ⟨keep0 hq hS2.1, keep0 hq hS2.2.1, keep0 hq hS2.2.2.1, keep0 hq hS2.2.2.2.1, keep0 hq hS2.2.2.2.2.1, keep0 hq hS2.2.2.2.2.2.1, keep0 hq hS2.2.2.2.2.2.2⟩
        refine hK.out _ _ (fun _ => hS3) ?_
        clear hK K hS2 hq ho
        refine wpAnyR_one 8 rfl (by kernel_rfl) (fun K hK => ?_)
        go_simp
        go_at_call 103
        refine (clone_ints (a.la 2) (a.ln 2) (a.lc 2) (intV (a.lf 2)) u3 ((HIN.out.kept HK3.out).l 2 (by omega)) (fun _ _ => rfl)).mono ?_
        rintro e u4 ⟨y2, yc2, rfl, ho, hq⟩
        have HK4 := Lib.hid (HK3.out.then0 hq)
        have HO4_0 := Lib.hid (HO3_0.out.kept hq (fun _ _ x => x))
        have HO4_1 := Lib.hid (HO3_1.out.kept hq (fun _ _ x => x))
        have HO4_2 := Lib.hid (ho.mono HW3.out)
        have HW4 := Lib.hid (Nat.le_trans HW3.out hq.size)
        have HA4 := Lib.hid (hq.blk HA3.out (fun x => x))
        have hS4 : u4.cell? ⟨bx, 1, none⟩ = some (.slice (a.la 0) (a.ln 0) (a.lc 0)) ∧ u4.cell? ⟨bx, 2, none⟩ = some (.slice (a.la 1) (a.ln 1) (a.lc 1)) ∧ u4.cell? ⟨bx, 3, none⟩ = some (.slice (a.la 2) (a.ln 2) (a.lc 2)) ∧ u4.cell? ⟨bx, 4, none⟩ = some (.slice (a.la 3) (a.ln 3) (a.lc 3)) ∧ u4.cell? ⟨bx, 5, none⟩ = some (.slice (a.la 4) (a.ln 4) (a.lc 4)) ∧ u4.cell? ⟨bx, 6, none⟩ = some (.slice (a.la 5) (a.ln 5) (a.lc 5)) ∧ u4.cell? ⟨bx, 8, none⟩ = some (.slice a.ea a.en a.ec) := ⟨keep0 hq hS3.1, keep0 hq hS3.2.1, keep0 hq hS3.2.2.1, keep0 hq hS3.2.2.2.1, keep0 hq hS3.2.2.2.2.1, keep0 hq hS3.2.2.2.2.2.1, keep0 hq hS3.2.2.2.2.2.2⟩
        refine hK.out _ _ (fun _ => hS4) ?_
        clear hK K hS3 hq ho
        refine wpAnyR_one 11 rfl (by kernel_rfl) (fun K hK => ?_)
        go_simp
        go_at_call 103
        refine (clone_ints (a.la 3) (a.ln 3) (a.lc 3) (intV (a.lf 3)) u4 ((HIN.out.kept HK4.out).l 3 (by omega)) (fun _ _ => rfl)).mono ?_
        rintro e u5 ⟨y3, yc3, rfl, ho, hq⟩
        have HK5 := Lib.hid (HK4.out.then0 hq)
        have HO5_0 := Lib.hid (HO4_0.out.kept hq (fun _ _ x => x))
        have HO5_1 := Lib.hid (HO4_1.out.kept hq (fun _ _ x => x))
        have HO5_2 := Lib.hid (HO4_2.out.kept hq (fun _ _ x => x))
        have HO5_3 := Lib.hid (ho.mono HW4.out)
        have HW5 := Lib.hid (Nat.le_trans HW4.out hq.size)
        have HA5 := Lib.hid (hq.blk HA4.out (fun x => x))
        have hS5 : u5.cell? ⟨bx, 1, none⟩ = some (.slice (a.la 0) (a.ln 0) (a.lc 0)) ∧ u5.cell? ⟨bx, 2, none⟩ = some (.slice (a.la 1) (a.ln 1) (a.lc 1)) ∧ u5.cell? ⟨bx, 3, none⟩ = some (.slice (a.la 2) (a.ln 2) (a.lc 2)) ∧ u5.cell? ⟨bx, 4, none⟩ = some (.slice (a.la 3) (a.ln 3) (a.lc 3)) ∧ u5.cell? ⟨bx, 5, none⟩ = some (.slice (a.la 4) (a.ln 4) (a.lc 4)) ∧ u5.cell? ⟨bx, 6, none⟩ = some (.slice (a.la 5) (a.ln 5) (a.lc 5)) ∧ u5.cell? ⟨bx, 8, none⟩ = some (.slice a.ea a.en a.ec) := ⟨keep0 hq hS4.1, keep0 hq hS4.2.1, keep0 hq hS4.2.2.1, keep0 hq hS4.2.2.2.1, keep0 hq hS4.2.2.2.2.1, keep0 hq hS4.2.2.2.2.2.1, keep0 hq hS4.2.2.2.2.2.2⟩
        refine hK.out _ _ (fun _ => hS5) ?_
        clear hK K hS4 hq ho
        refine wpAnyR_one 14 rfl (by kernel_rfl) (fun K hK => ?_)
        go_simp
        go_at_call 103
        refine (clone_ints (a.la 4) (a.ln 4) (a.lc 4) (intV (a.lf 4)) u5 ((HIN.out.kept HK5.out).l 4 (by omega)) (fun _ _ => rfl)).mono ?_
        rintro e u6 ⟨y4, yc4, rfl, ho, hq⟩
        have HK6 := Lib.hid (HK5.out.then0 hq)
        have HO6_0 := Lib.hid (HO5_0.out.kept hq (fun _ _ x => x))
        have HO6_1 := Lib.hid (HO5_1.out.kept hq (fun _ _ x => x))
        have HO6_2 := Lib.hid (HO5_2.out.kept hq (fun _ _ x => x))
        have HO6_3 := Lib.hid (HO5_3.out.kept hq (fun _ _ x => x))
        have HO6_4 := Lib.hid (ho.mono HW5.out)
        have HW6 := Lib.hid (Nat.le_trans HW5.out hq.size)
        have HA6 := Lib.hid (hq.blk HA5.out (fun x => x))
        have hS6 : u6.cell? ⟨bx, 1, none⟩ = some (.slice (a.la 0) (a.ln 0) (a.lc 0)) ∧ u6.cell? ⟨bx, 2, none⟩ = some (.slice (a.la 1) (a.ln 1) (a.lc 1)) ∧ u6.cell? ⟨bx, 3, none⟩ = some (.slice (a.la 2) (a.ln 2) (a.lc 2)) ∧ u6.cell? ⟨bx, 4, none⟩ = some (.slice (a.la 3) (a.ln 3) (a.lc 3)) ∧ u6.cell? ⟨bx, 5, none⟩ = some (.slice (a.la 4) (a.ln 4) (a.lc 4)) ∧ u6.cell? ⟨bx, 6, none⟩ = some (.slice (a.la 5) (a.ln 5) (a.lc 5)) ∧ u6.cell? ⟨bx, 8, none⟩ = some (.slice a.ea a.en a.ec) := ⟨keep0 hq hS5.1, keep0 hq hS5.2.1, keep0 hq hS5.2.2.1, keep0 hq hS5.2.2.2.1, keep0 hq hS5.2.2.2.2.1, keep0 hq hS5.2.2.2.2.2.1, keep0 hq hS5.2.2.2.2.2.2⟩
        refine hK.out _ _ (fun _ => hS6) ?_
        clear hK K hS5 hq ho
        refine wpAnyR_one 17 rfl (by kernel_rfl) (fun K hK => ?_)
        go_simp
        go_at_call 103
        refine (clone_ints (a.la 5) (a.ln 5) (a.lc 5) (intV (a.lf 5)) u6 ((HIN.out.kept HK6.out).l 5 (by omega)) (fun _ _ => rfl)).mono ?_
        rintro e u7 ⟨y5, yc5, rfl, ho, hq⟩
        have HK7 := Lib.hid (HK6.out.then0 hq)
        have HO7_0 := Lib.hid (HO6_0.out.kept hq (fun _ _ x => x))
        have HO7_1 := Lib.hid (HO6_1.out.kept hq (fun _ _ x => x))
        have HO7_2 := Lib.hid (HO6_2.out.kept hq (fun _ _ x => x))
        have HO7_3 := Lib.hid (HO6_3.out.kept hq (fun _ _ x => x))
        have HO7_4 := Lib.hid (HO6_4.out.kept hq (fun _ _ x => x))
        have HO7_5 := Lib.hid (ho.mono HW6.out)
        have HW7 := Lib.hid (Nat.le_trans HW6.out hq.size)
        have HA7 := Lib.hid (hq.blk HA6.out (fun x => x))
        have hS7 : u7.cell? ⟨bx, 1, none⟩ = some (.slice (a.la 0) (a.ln 0) (a.lc 0)) ∧ u7.cell? ⟨bx, 2, none⟩ = some (.slice (a.la 1) (a.ln 1) (a.lc 1)) ∧ u7.cell? ⟨bx, 3, none⟩ = some (.slice (a.la 2) (a.ln 2) (a.lc 2)) ∧ u7.cell? ⟨bx, 4, none⟩ = some (.slice (a.la 3) (a.ln 3) (a.lc 3)) ∧ u7.cell? ⟨bx, 5, none⟩ = some (.slice (a.la 4) (a.ln 4) (a.lc 4)) ∧ u7.cell? ⟨bx, 6, none⟩ = some (.slice (a.la 5) (a.ln 5) (a.lc 5)) ∧ u7.cell? ⟨bx, 8, none⟩ = some (.slice a.ea a.en a.ec) := ⟨keep0 hq hS6.1, keep0 hq hS6.2.1, keep0 hq hS6.2.2.1, keep0 hq hS6.2.2.2.1, keep0 hq hS6.2.2.2.2.1, keep0 hq hS6.2.2.2.2.2.1, keep0 hq hS6.2.2.2.2.2.2⟩
        refine hK.out _ _ (fun _ => hS7) ?_
        clear hK K hS6 hq ho
        refine wpAnyR_one 20 rfl (by kernel_rfl) (fun K hK => ?_)
        go_simp
        go_at_call 104
        refine (clone_nameds a.ea a.en a.ec a.EF u7 (HIN.out.kept HK7.out).ex HONE.out).mono ?_
        rintro e u8 ⟨y6, yc6, rfl, ho, hq⟩
        have HK8 := Lib.hid (HK7.out.then0 hq)
        have HO8_0 := Lib.hid (HO7_0.out.kept hq (fun _ _ x => x))
        have HO8_1 := Lib.hid (HO7_1.out.kept hq (fun _ _ x => x))
        have HO8_2 := Lib.hid (HO7_2.out.kept hq (fun _ _ x => x))
        have HO8_3 := Lib.hid (HO7_3.out.kept hq (fun _ _ x => x))
        have HO8_4 := Lib.hid (HO7_4.out.kept hq (fun _ _ x => x))
        have HO8_5 := Lib.hid (HO7_5.out.kept hq (fun _ _ x => x))
        have HO8_6 := Lib.hid (ho.mono HW7.out)
        have HW8 := Lib.hid (Nat.le_trans HW7.out hq.size)
        have HA8 := Lib.hid (hq.blk HA7.out (fun x => x))
        have hS8 : u8.cell? ⟨bx, 1, none⟩ = some (.slice (a.la 0) (a.ln 0) (a.lc 0)) ∧ u8.cell? ⟨bx, 2, none⟩ = some (.slice (a.la 1) (a.ln 1) (a.lc 1)) ∧ u8.cell? ⟨bx, 3, none⟩ = some (.slice (a.la 2) (a.ln 2) (a.lc 2)) ∧ u8.cell? ⟨bx, 4, none⟩ = some (.slice (a.la 3) (a.ln 3) (a.lc 3)) ∧ u8.cell? ⟨bx, 5, none⟩ = some (.slice (a.la 4) (a.ln 4) (a.lc 4)) ∧ u8.cell? ⟨bx, 6, none⟩ = some (.slice (a.la 5) (a.ln 5) (a.lc 5)) ∧ u8.cell? ⟨bx, 8, none⟩ = some (.slice a.ea a.en a.ec) := ⟨keep0 hq hS7.1, keep0 hq hS7.2.1, keep0 hq hS7.2.2.1, keep0 hq hS7.2.2.2.1, keep0 hq hS7.2.2.2.2.1, keep0 hq hS7.2.2.2.2.2.1, keep0 hq hS7.2.2.2.2.2.2⟩
        refine hK.out _ _ (fun _ => hS8) ?_
        clear hK K hS7 hq ho
        (first | (refine tkR 21 (v := ?_) rfl hS8 ⟨by rfl, ?_⟩ ?_; rotate_left; intro w h; (try dsimp only at h); first | (go_simp; done) | (go_simp; with_reducible rfl)) | refine skR 21 rfl (fun _ => hS8) (by rfl) ?_); simp only [zq1, zq2, zq3, Act.put, zq4, zq5, zq6]
        have a0 := HA8.out.cell 0
        have b0 := HA8.out.frozen 0
        have a1 := HA8.out.cell 1
        have b1 := HA8.out.frozen 1
        have a2 := HA8.out.cell 2
        have b2 := HA8.out.frozen 2
        have a3 := HA8.out.cell 3
        have b3 := HA8.out.frozen 3
        have a4 := HA8.out.cell 4
        have b4 := HA8.out.frozen 4
        have a5 := HA8.out.cell 5
        have b5 := HA8.out.frozen 5
        have a6 := HA8.out.cell 6
        have b6 := HA8.out.frozen 6
        have a7 := HA8.out.cell 7
        have b7 := HA8.out.frozen 7
        have a8 := HA8.out.cell 8
        have b8 := HA8.out.frozen 8
        refine wpAnyR_one 23 rfl (by kernel_rfl) (fun K hK => ?_)
        go_simp
        refine hK.out _ _ (fun h => absurd h (by decide)) ?_
        clear hK K hS8
        refine wpAnyR_done (by kernel_rfl) ?_ _
        have hks : Kept (S1 ib) u8 (((((((((u8.setCell ⟨ib, 0, none⟩ (.slice none 0 0)).setCell ⟨ib, 1, none⟩ (.slice y0 (a.ln 0) yc0)).setCell ⟨ib, 2, none⟩ (.slice y1 (a.ln 1) yc1)).setCell ⟨ib, 3, none⟩ (.slice y2 (a.ln 2) yc2)).setCell ⟨ib, 4, none⟩ (.slice y3 (a.ln 3) yc3)).setCell ⟨ib, 5, none⟩ (.slice y4 (a.ln 4) yc4)).setCell ⟨ib, 6, none⟩ (.slice y5 (a.ln 5) yc5)).setCell ⟨ib, 7, none⟩ (.slice none 0 0)).setCell ⟨ib, 8, none⟩ (.slice y6 a.en yc6)) := ((((((((((Kept.refl (S1 ib) u8).setCell (p := ⟨ib, 0, none⟩) (.inl rfl) (.slice none 0 0)).setCell (p := ⟨ib, 1, none⟩) (.inl rfl) (.slice y0 (a.ln 0) yc0)).setCell (p := ⟨ib, 2, none⟩) (.inl rfl) (.slice y1 (a.ln 1) yc1)).setCell (p := ⟨ib, 3, none⟩) (.inl rfl) (.slice y2 (a.ln 2) yc2)).setCell (p := ⟨ib, 4, none⟩) (.inl rfl) (.slice y3 (a.ln 3) yc3)).setCell (p := ⟨ib, 5, none⟩) (.inl rfl) (.slice y4 (a.ln 4) yc4)).setCell (p := ⟨ib, 6, none⟩) (.inl rfl) (.slice y5 (a.ln 5) yc5)).setCell (p := ⟨ib, 7, none⟩) (.inl rfl) (.slice none 0 0)).setCell (p := ⟨ib, 8, none⟩) (.inl rfl) (.slice y6 a.en yc6))
        have hfin : InSt (((((((((u8.setCell ⟨ib, 0, none⟩ (.slice none 0 0)).setCell ⟨ib, 1, none⟩ (.slice y0 (a.ln 0) yc0)).setCell ⟨ib, 2, none⟩ (.slice y1 (a.ln 1) yc1)).setCell ⟨ib, 3, none⟩ (.slice y2 (a.ln 2) yc2)).setCell ⟨ib, 4, none⟩ (.slice y3 (a.ln 3) yc3)).setCell ⟨ib, 5, none⟩ (.slice y4 (a.ln 4) yc4)).setCell ⟨ib, 6, none⟩ (.slice y5 (a.ln 5) yc5)).setCell ⟨ib, 7, none⟩ (.slice none 0 0)).setCell ⟨ib, 8, none⟩ (.slice y6 a.en yc6)) wa.heap.size ib a (.slice none 0 0) (.slice none 0 0) := ⟨HL.out, y0, y1, y2, y3, y4, y5, y6, yc0, yc1, yc2, yc3, yc4, yc5, yc6, (((((((((HA8.out.set_ 0 (.slice none 0 0)).set_ 1 (.slice y0 (a.ln 0) yc0)).set_ 2 (.slice y1 (a.ln 1) yc1)).set_ 3 (.slice y2 (a.ln 2) yc2)).set_ 4 (.slice y3 (a.ln 3) yc3)).set_ 5 (.slice y4 (a.ln 4) yc4)).set_ 6 (.slice y5 (a.ln 5) yc5)).set_ 7 (.slice none 0 0)).set_ 8 (.slice y6 a.en yc6)), HO8_0.out.kept hks (fun g hg x => (HO8_0.out.ofT hg).ne HA8.out.ofT (by decide) (by exact x)), HO8_1.out.kept hks (fun g hg x => (HO8_1.out.ofT hg).ne HA8.out.ofT (by decide) (by exact x)), HO8_2.out.kept hks (fun g hg x => (HO8_2.out.ofT hg).ne HA8.out.ofT (by decide) (by exact x)), HO8_3.out.kept hks (fun g hg x => (HO8_3.out.ofT hg).ne HA8.out.ofT (by decide) (by exact x)), HO8_4.out.kept hks (fun g hg x => (HO8_4.out.ofT hg).ne HA8.out.ofT (by decide) (by exact x)), HO8_5.out.kept hks (fun g hg x => (HO8_5.out.ofT hg).ne HA8.out.ofT (by decide) (by exact x)), HO8_6.out.kept hks (fun g hg x => (HO8_6.out.ofT hg).ne HA8.out.ofT (by decide) (by exact x))⟩
        go_wp2_with fail
        go_meet
        exact ⟨ib, rfl, hfin, (HK0.out.then0 HK8.out).trans_ hks (fun i e => .inr (by have e' : i = ib := e; rw [e']; exact HL.out))⟩
    · go_simp
      have hq : Kept S0 w0 (w0.alloc (.cells #[.slice none 0 0, .slice none 0 0, .slice none 0 0, .slice none 0 0, .slice none 0 0, .slice none 0 0, .slice none 0 0, .slice none 0 0, .slice none 0 0] 77)) := (Kept.refl S0 w0).alloc _
      have HA1 := Lib.hid (Blk.new w0 77 #[.slice none 0 0, .slice none 0 0, .slice none 0 0, .slice none 0 0, .slice none 0 0, .slice none 0 0, .slice none 0 0, .slice none 0 0, .slice none 0 0])
      have HL := HW0
      have HW1 := Lib.hid (Nat.le_trans HW0.out hq.size)
      have HK1 := Lib.hid (HZ.out.then0 hq)
      have hS1 : (w0.alloc (.cells #[.slice none 0 0, .slice none 0 0, .slice none 0 0, .slice none 0 0, .slice none 0 0, .slice none 0 0, .slice none 0 0, .slice none 0 0, .slice none 0 0] 77)).cell? ⟨bx, 1, none⟩ = some (.slice (a.la 0) (a.ln 0) (a.lc 0)) ∧ (w0.alloc (.cells #[.slice none 0 0, .slice none 0 0, .slice none 0 0, .slice none 0 0, .slice none 0 0, .slice none 0 0, .slice none 0 0, .slice none 0 0, .slice none 0 0] 77)).cell? ⟨bx, 2, none⟩ = some (.slice (a.la 1) (a.ln 1) (a.lc 1)) ∧ (w0.alloc (.cells #[.slice none 0 0, .slice none 0 0, .slice none 0 0, .slice none 0 0, .slice none 0 0, .slice none 0 0, .slice none 0 0, .slice none 0 0, .slice none 0 0] 77)).cell? ⟨bx, 3, none⟩ = some (.slice (a.la 2) (a.ln 2) (a.lc 2)) ∧ (w0.alloc (.cells #[.slice none 0 0, .slice none 0 0, .slice none 0 0, .slice none 0 0, .slice none 0 0, .slice none 0 0, .slice none 0 0, .slice none 0 0, .slice none 0 0] 77)).cell? ⟨bx, 4, none⟩ = some (.slice (a.la 3) (a.ln 3) (a.lc 3)) ∧ (w0.alloc (.cells #[.slice none 0 0, .slice none 0 0, .slice none 0 0, .slice none 0 0, .slice none 0 0, .slice none 0 0, .slice none 0 0, .slice none 0 0, .slice none 0 0] 77)).cell? ⟨bx, 5, none⟩ = some (.slice (a.la 4) (a.ln 4) (a.lc 4)) ∧ (w0.alloc (.cells #[.slice none 0 0, .slice none 0 0, .slice none 0 0, .slice none 0 0, .slice none 0 0, .slice none 0 0, .slice none 0 0, .slice none 0 0, .slice none 0 0] 77)).cell? ⟨bx, 6, none⟩ = some (.slice (a.la 5) (a.ln 5) (a.lc 5)) ∧ (w0.alloc (.cells #[.slice none 0 0, .slice none 0 0, .slice none 0 0, .slice none 0 0, .slice none 0 0, .slice none 0 0, .slice none 0 0, .slice none 0 0, .slice none 0 0] 77)).cell? ⟨bx, 8, none⟩ = some (.slice a.ea a.en a.ec) := ⟨keep0 hq hS.1, keep0 hq hS.2.1, keep0 hq hS.2.2.1, keep0 hq hS.2.2.2.1, keep0 hq hS.2.2.2.2.1, keep0 hq hS.2.2.2.2.2.1, keep0 hq hS.2.2.2.2.2.2⟩
      refine hK.out _ _ (fun _ => hS1) ?_
      clear hK K hS hq
      generalize w0.heap.size = ib at *
      generalize (w0.alloc (.cells #[.slice none 0 0, .slice none 0 0, .slice none 0 0, .slice none 0 0, .slice none 0 0, .slice none 0 0, .slice none 0 0, .slice none 0 0, .slice none 0 0] 77)) = u1 at *
      refine wpAnyR_one 2 rfl (by kernel_rfl) (fun K hK => ?_)
      go_simp
      go_at_call 103
      refine (clone_ints (a.la 0) (a.ln 0) (a.lc 0) (intV (a.lf 0)) u1 ((HIN.out.kept HK1.out).l 0 (by omega)) (fun _ _ => rfl)).mono ?_
      rintro e u2 ⟨y0, yc0, rfl, ho, hq⟩
      have HK2 := Lib.hid (HK1.out.then0 hq)
      have HO2_0 := Lib.hid (ho.mono HW1.out)
      have HW2 := Lib.hid (Nat.le_trans HW1.out hq.size)
      have HA2 := Lib.hid (hq.blk HA1.out (fun x => x))
      have hS2 : u2.cell? ⟨bx, 1, none⟩ = some (.slice (a.la 0) (a.ln 0) (a.lc 0)) ∧ u2.cell? ⟨bx, 2, none⟩ = some (.slice (a.la 1) (a.ln 1) (a.lc 1)) ∧ u2.cell? ⟨bx, 3, none⟩ = some (.slice (a.la 2) (a.ln 2) (a.lc 2)) ∧ u2.cell? ⟨bx, 4, none⟩ = some (.slice (a.la 3) (a.ln 3) (a.lc 3)) ∧ u2.cell? ⟨bx, 5, none⟩ = some (.slice (a.la 4) (a.ln 4) (a.lc 4)) ∧ u2.cell? ⟨bx, 6, none⟩ = some (.slice (a.la 5) (a.ln 5) (a.lc 5)) ∧ u2.cell? ⟨bx, 8, none⟩ = some (.slice a.ea a.en a.ec) := ⟨keep0 hq hS1.1, keep0 hq hS1.2.1, keep0 hq hS1.2.2.1, keep0 hq hS1.2.2.2.1, keep0 hq hS1.2.2.2.2.1, keep0 hq hS1.2.2.2.2.2.1, keep0 hq hS1.2.2.2.2.2.2⟩
      refine hK.out _ _ (fun _ => hS2) ?_
      clear hK K hS1 hq ho
      refine wpAnyR_one 5 rfl (by kernel_rfl) (fun K hK => ?_)
      go_simp
      go_at_call 103
      refine (clone_ints (a.la 1) (a.ln 1) (a.lc 1) (intV (a.lf 1)) u2 ((HIN.out.kept HK2.out).l 1 (by omega)) (fun _ _ => rfl)).mono ?_
      rintro e u3 ⟨y1, yc1, rfl, ho, hq⟩
      have HK3 := Lib.hid (HK2.out.then0 hq)
      have HO3_0 := Lib.hid (HO2_0.out.kept hq (fun _ _ x => x))
      have HO3_1 := Lib.hid (ho.mono HW2.out)
      have HW3 := Lib.hid (Nat.le_trans HW2.out hq.size)
      have HA3 := Lib.hid (hq.blk HA2.out (fun x => x))
      have hS3 : u3.cell? ⟨bx, 1, none⟩ = some (.slice (a.la 0) (a.ln 0) (a.lc 0)) ∧ u3.cell? ⟨bx, 2, none⟩ = some (.slice (a.la 1) (a.ln 1) (a.lc 1)) ∧ u3.cell? ⟨bx, 3, none⟩ = some (.slice (a.la 2) (a.ln 2) (a.lc 2)) ∧ u3.cell? ⟨bx, 4, none⟩ = some (.slice (a.la 3) (a.ln 3) (a.lc 3)) ∧ u3.cell? ⟨bx, 5, none⟩ = some (.slice (a.la 4) (a.ln 4) (a.lc 4)) ∧ u3.cell? ⟨bx, 6, none⟩ = some (.slice (a.la 5) (a.ln 5) (a.lc 5)) ∧ u3.cell? ⟨bx, 8, none⟩ = some (.slice a.ea a.en a.ec) := ⟨keep0 hq hS2.1, keep0 hq hS2.2.1, keep0 hq hS2.2.2.1, keep0 hq hS2.2.2.2.1, keep0 hq hS2.2.2.2.2.1, keep0 hq hS2.2.2.2.2.2.1, keep0 hq hS2.2.2.2.2.2.2⟩
      refine hK.out _ _ (fun _ => hS3) ?_
      clear hK K hS2 hq ho
      refine wpAnyR_one 8 rfl (by kernel_rfl) (fun K hK => ?_)
      go_simp
      go_at_call 103
      refine (clone_ints (a.la 2) (a.ln 2) (a.lc 2) (intV (a.lf 2)) u3 ((HIN.out.kept HK3.out).l 2 (by omega)) (fun _ _ => rfl)).mono ?_
      rintro e u4 ⟨y2, yc2, rfl, ho, hq⟩
      have HK4 := Lib.hid (HK3.out.then0 hq)
      have HO4_0 := Lib.hid (HO3_0.out.kept hq (fun _ _ x => x))
      have HO4_1 := Lib.hid (HO3_1.out.kept hq (fun _ _ x => x))
      have HO4_2 := Lib.hid (ho.mono HW3.out)
      have HW4 := Lib.hid (Nat.le_trans HW3.out hq.size)
      have HA4 := Lib.hid (hq.blk HA3.out (fun x => x))
      have hS4 : u4.cell? ⟨bx, 1, none⟩ = some (.slice (a.la 0) (a.ln 0) (a.lc 0)) ∧ u4.cell? ⟨bx, 2, none⟩ = some (.slice (a.la 1) (a.ln 1) (a.lc 1)) ∧ u4.cell? ⟨bx, 3, none⟩ = some (.slice (a.la 2) (a.ln 2) (a.lc 2)) ∧ u4.cell? ⟨bx, 4, none⟩ = some (.slice (a.la 3) (a.ln 3) (a.lc 3)) ∧ u4.cell? ⟨bx, 5, none⟩ = some (.slice (a.la 4) (a.ln 4) (a.lc 4)) ∧ u4.cell? ⟨bx, 6, none⟩ = some (.slice (a.la 5) (a.ln 5) (a.lc 5)) ∧ u4.cell? ⟨bx, 8, none⟩ = some (.slice a.ea a.en a.ec) := ⟨keep0 hq hS3.1, keep0 hq hS3.2.1, keep0 hq hS3.2.2.1, keep0 hq hS3.2.2.2.1, keep0 hq hS3.2.2.2.2.1, keep0 hq hS3.2.2.2.2.2.1, keep0 hq hS3.2.2.2.2.2.2⟩
      refine hK.out _ _ (fun _ => hS4) ?_
      clear hK K hS3 hq ho
      refine wpAnyR_one 11 rfl (by kernel_rfl) (fun K hK => ?_)
      go_simp
      go_at_call 103
      refine (clone_ints (a.la 3) (a.ln 3) (a.lc 3) (intV (a.lf 3)) u4 ((HIN.out.kept HK4.out).l 3 (by omega)) (fun _ _ => rfl)).mono ?_
      rintro e u5 ⟨y3, yc3, rfl, ho, hq⟩
      have HK5 := Lib.hid (HK4.out.then0 hq)
      have HO5_0 := Lib.hid (HO4_0.out.kept hq (fun _ _ x => x))
      have HO5_1 := Lib.hid (HO4_1.out.kept hq (fun _ _ x => x))
      have HO5_2 := Lib.hid (HO4_2.out.kept hq (fun _ _ x => x))
      have HO5_3 := Lib.hid (ho.mono HW4.out)
      have HW5 := Lib.hid (Nat.le_trans HW4.out hq.size)
      have HA5 := Lib.hid (hq.blk HA4.out (fun x => x))
      have hS5 : u5.cell? ⟨bx, 1, none⟩ = some (.slice (a.la 0) (a.ln 0) (a.lc 0)) ∧ u5.cell? ⟨bx, 2, none⟩ = some (.slice (a.la 1) (a.ln 1) (a.lc 1)) ∧ u5.cell? ⟨bx, 3, none⟩ = some (.slice (a.la 2) (a.ln 2) (a.lc 2)) ∧ u5.cell? ⟨bx, 4, none⟩ = some (.slice (a.la 3) (a.ln 3) (a.lc 3)) ∧ u5.cell? ⟨bx, 5, none⟩ = some (.slice (a.la 4) (a.ln 4) (a.lc 4)) ∧ u5.cell? ⟨bx, 6, none⟩ = some (.slice (a.la 5) (a.ln 5) (a.lc 5)) ∧ u5.cell? ⟨bx, 8, none⟩ = some (.slice a.ea a.en a.ec) := ⟨keep0 hq hS4.1, keep0 hq hS4.2.1, keep0 hq hS4.2.2.1, keep0 hq hS4.2.2.2.1, keep0 hq hS4.2.2.2.2.1, keep0 hq hS4.2.2.2.2.2.1, keep0 hq hS4.2.2.2.2.2.2⟩
      refine hK.out _ _ (fun _ => hS5) ?_
      clear hK K hS4 hq ho
      refine wpAnyR_one 14 rfl (by kernel_rfl) (fun K hK => ?_)
      go_simp
      go_at_call 103
      refine (clone_ints (a.la 4) (a.ln 4) (a.lc 4) (intV (a.lf 4)) u5 ((HIN.out.kept HK5.out).l 4 (by omega)) (fun _ _ => rfl)).mono ?_
      rintro e u6 ⟨y4, yc4, rfl, ho, hq⟩
      have HK6 := Lib.hid (HK5.out.then0 hq)
      have HO6_0 := Lib.hid (HO5_0.out.kept hq (fun _ _ x => x))
      have HO6_1 := Lib.hid (HO5_1.out.kept hq (fun _ _ x => x))
      have HO6_2 := Lib.hid (HO5_2.out.kept hq (fun _ _ x => x))
      have HO6_3 := Lib.hid (HO5_3.out.kept hq (fun _ _ x => x))
      have HO6_4 := Lib.hid (ho.mono HW5.out)
      have HW6 := Lib.hid (Nat.le_trans HW5.out hq.size)
      have HA6 := Lib.hid (hq.blk HA5.out (fun x => x))
      have hS6 : u6.cell? ⟨bx, 1, none⟩ = some (.slice (a.la 0) (a.ln 0) (a.lc 0)) ∧ u6.cell? ⟨bx, 2, none⟩ = some (.slice (a.la 1) (a.ln 1) (a.lc 1)) ∧ u6.cell? ⟨bx, 3, none⟩ = some (.slice (a.la 2) (a.ln 2) (a.lc 2)) ∧ u6.cell? ⟨bx, 4, none⟩ = some (.slice (a.la 3) (a.ln 3) (a.lc 3)) ∧ u6.cell? ⟨bx, 5, none⟩ = some (.slice (a.la 4) (a.ln 4) (a.lc 4)) ∧ u6.cell? ⟨bx, 6, none⟩ = some (.slice (a.la 5) (a.ln 5) (a.lc 5)) ∧ u6.cell? ⟨bx, 8, none⟩ = some (.slice a.ea a.en a.ec) := ⟨keep0 hq hS5.1, keep0 hq hS5.2.1, keep0 hq hS5.2.2.1, keep0 hq hS5.2.2.2.1, keep0 hq hS5.2.2.2.2.1, keep0 hq hS5.2.2.2.2.2.1, keep0 hq hS5.2.2.2.2.2.2⟩
      refine hK.out _ _ (fun _ => hS6) ?_
      clear hK K hS5 hq ho
      refine wpAnyR_one 17 rfl (by kernel_rfl) (fun K hK => ?_)
      go_simp
      go_at_call 103
      refine (clone_ints (a.la 5) (a.ln 5) (a.lc 5) (intV (a.lf 5)) u6 ((HIN.out.kept HK6.out).l 5 (by omega)) (fun _ _ => rfl)).mono ?_
      rintro e u7 ⟨y5, yc5, rfl, ho, hq⟩
      have HK7 := Lib.hid (HK6.out.then0 hq)
      have HO7_0 := Lib.hid (HO6_0.out.kept hq (fun _ _ x => x))
      have HO7_1 := Lib.hid (HO6_1.out.kept hq (fun _ _ x => x))
      have HO7_2 := Lib.hid (HO6_2.out.kept hq (fun _ _ x => x))
      have HO7_3 := Lib.hid (HO6_3.out.kept hq (fun _ _ x => x))
      have HO7_4 := Lib.hid (HO6_4.out.kept hq (fun _ _ x => x))
      have HO7_5 := Lib.hid (ho.mono HW6.out)
      have HW7 := Lib.hid (Nat.le_trans HW6.out hq.size)
      have HA7 := Lib.hid (hq.blk HA6.out (fun x => x))
      have hS7 : u7.cell? ⟨bx, 1, none⟩ = some (.slice (a.la 0) (a.ln 0) (a.lc 0)) ∧ u7.cell? ⟨bx, 2, none⟩ = some (.slice (a.la 1) (a.ln 1) (a.lc 1)) ∧ u7.cell? ⟨bx, 3, none⟩ = some (.slice (a.la 2) (a.ln 2) (a.lc 2)) ∧ u7.cell? ⟨bx, 4, none⟩ = some (.slice (a.la 3) (a.ln 3) (a.lc 3)) ∧ u7.cell? ⟨bx, 5, none⟩ = some (.slice (a.la 4) (a.ln 4) (a.lc 4)) ∧ u7.cell? ⟨bx, 6, none⟩ = some (.slice (a.la 5) (a.ln 5) (a.lc 5)) ∧ u7.cell? ⟨bx, 8, none⟩ = some (.slice a.ea a.en a.ec) := ⟨keep0 hq hS6.1, keep0 hq hS6.2.1, keep0 hq hS6.2.2.1, keep0 hq hS6.2.2.2.1, keep0 hq hS6.2.2.2.2.1, keep0 hq hS6.2.2.2.2.2.1, keep0 hq hS6.2.2.2.2.2.2⟩
      refine hK.out _ _ (fun _ => hS7) ?_
      clear hK K hS6 hq ho
      refine wpAnyR_one 20 rfl (by kernel_rfl) (fun K hK => ?_)
      go_simp
      go_at_call 104
      refine (clone_nameds a.ea a.en a.ec a.EF u7 (HIN.out.kept HK7.out).ex HONE.out).mono ?_
      rintro e u8 ⟨y6, yc6, rfl, ho, hq⟩
      have HK8 := Lib.hid (HK7.out.then0 hq)
      have HO8_0 := Lib.hid (HO7_0.out.kept hq (fun _ _ x => x))
      have HO8_1 := Lib.hid (HO7_1.out.kept hq (fun _ _ x => x))
      have HO8_2 := Lib.hid (HO7_2.out.kept hq (fun _ _ x => x))
      have HO8_3 := Lib.hid (HO7_3.out.kept hq (fun _ _ x => x))
      have HO8_4 := Lib.hid (HO7_4.out.kept hq (fun _ _ x => x))
      have HO8_5 := Lib.hid (HO7_5.out.kept hq (fun _ _ x => x))
      have HO8_6 := Lib.hid (ho.mono HW7.out)
      have HW8 := Lib.hid (Nat.le_trans HW7.out hq.size)
      have HA8 := Lib.hid (hq.blk HA7.out (fun x => x))
      have hS8 : u8.cell? ⟨bx, 1, none⟩ = some (.slice (a.la 0) (a.ln 0) (a.lc 0)) ∧ u8.cell? ⟨bx, 2, none⟩ = some (.slice (a.la 1) (a.ln 1) (a.lc 1)) ∧ u8.cell? ⟨bx, 3, none⟩ = some (.slice (a.la 2) (a.ln 2) (a.lc 2)) ∧ u8.cell? ⟨bx, 4, none⟩ = some (.slice (a.la 3) (a.ln 3) (a.lc 3)) ∧ u8.cell? ⟨bx, 5, none⟩ = some (.slice (a.la 4) (a.ln 4) (a.lc 4)) ∧ u8.cell? ⟨bx, 6, none⟩ = some (.slice (a.la 5) (a.ln 5) (a.lc 5)) ∧ u8.cell? ⟨bx, 8, none⟩ = some (.slice a.ea a.en a.ec) := ⟨keep0 hq hS7.1, keep0 hq hS7.2.1, keep0 hq hS7.2.2.1, keep0 hq hS7.2.2.2.1, keep0 hq hS7.2.2.2.2.1, keep0 hq hS7.2.2.2.2.2.1, keep0 hq hS7.2.2.2.2.2.2⟩
      refine hK.out _ _ (fun _ => hS8) ?_
      clear hK K hS7 hq ho
      (first | (refine tkR 21 (v := ?_) rfl hS8 ⟨by rfl, ?_⟩ ?_; rotate_left; intro w h; (try dsimp only at h); first | (go_simp; done) | (go_simp; with_reducible rfl)) | refine skR 21 rfl (fun _ => hS8) (by rfl) ?_); simp only [zq1, zq2, zq3, Act.put, zq4, zq5, zq6]
      have a0 := HA8.out.cell 0
      have b0 := HA8.out.frozen 0
      have a1 := HA8.out.cell 1
      have b1 := HA8.out.frozen 1
      have a2 := HA8.out.cell 2
      have b2 := HA8.out.frozen 2
      have a3 := HA8.out.cell 3
      have b3 := HA8.out.frozen 3
      have a4 := HA8.out.cell 4
      have b4 := HA8.out.frozen 4
      have a5 := HA8.out.cell 5
      have b5 := HA8.out.frozen 5
      have a6 := HA8.out.cell 6
      have b6 := HA8.out.frozen 6
      have a7 := HA8.out.cell 7
      have b7 := HA8.out.frozen 7
      have a8 := HA8.out.cell 8
      have b8 := HA8.out.frozen 8
      refine wpAnyR_one 23 rfl (by kernel_rfl) (fun K hK => ?_)
      go_simp
      refine hK.out _ _ (fun h => absurd h (by decide)) ?_
      clear hK K hS8
      refine wpAnyR_done (by kernel_rfl) ?_ _
      have hks : Kept (S1 ib) u8 (((((((((u8.setCell ⟨ib, 0, none⟩ (.slice none 0 0)).setCell ⟨ib, 1, none⟩ (.slice y0 (a.ln 0) yc0)).setCell ⟨ib, 2, none⟩ (.slice y1 (a.ln 1) yc1)).setCell ⟨ib, 3, none⟩ (.slice y2 (a.ln 2) yc2)).setCell ⟨ib, 4, none⟩ (.slice y3 (a.ln 3) yc3)).setCell ⟨ib, 5, none⟩ (.slice y4 (a.ln 4) yc4)).setCell ⟨ib, 6, none⟩ (.slice y5 (a.ln 5) yc5)).setCell ⟨ib, 7, none⟩ (.slice none 0 0)).setCell ⟨ib, 8, none⟩ (.slice y6 a.en yc6)) := ((((((((((Kept.refl (S1 ib) u8).setCell (p := ⟨ib, 0, none⟩) (.inl rfl) (.slice none 0 0)).setCell (p := ⟨ib, 1, none⟩) (.inl rfl) (.slice y0 (a.ln 0) yc0)).setCell (p := ⟨ib, 2, none⟩) (.inl rfl) (.slice y1 (a.ln 1) yc1)).setCell (p := ⟨ib, 3, none⟩) (.inl rfl) (.slice y2 (a.ln 2) yc2)).setCell (p := ⟨ib, 4, none⟩) (.inl rfl) (.slice y3 (a.ln 3) yc3)).setCell (p := ⟨ib, 5, none⟩) (.inl rfl) (.slice y4 (a.ln 4) yc4)).setCell (p := ⟨ib, 6, none⟩) (.inl rfl) (.slice y5 (a.ln 5) yc5)).setCell (p := ⟨ib, 7, none⟩) (.inl rfl) (.slice none 0 0)).setCell (p := ⟨ib, 8, none⟩) (.inl rfl) (.slice y6 a.en yc6))
      have hfin : InSt (((((((((u8.setCell ⟨ib, 0, none⟩ (.slice none 0 0)).setCell ⟨ib, 1, none⟩ (.slice y0 (a.ln 0) yc0)).setCell ⟨ib, 2, none⟩ (.slice y1 (a.ln 1) yc1)).setCell ⟨ib, 3, none⟩ (.slice y2 (a.ln 2) yc2)).setCell ⟨ib, 4, none⟩ (.slice y3 (a.ln 3) yc3)).setCell ⟨ib, 5, none⟩ (.slice y4 (a.ln 4) yc4)).setCell ⟨ib, 6, none⟩ (.slice y5 (a.ln 5) yc5)).setCell ⟨ib, 7, none⟩ (.slice none 0 0)).setCell ⟨ib, 8, none⟩ (.slice y6 a.en yc6)) wa.heap.size ib a (.slice none 0 0) (.slice none 0 0) := ⟨HL.out, y0, y1, y2, y3, y4, y5, y6, yc0, yc1, yc2, yc3, yc4, yc5, yc6, (((((((((HA8.out.set_ 0 (.slice none 0 0)).set_ 1 (.slice y0 (a.ln 0) yc0)).set_ 2 (.slice y1 (a.ln 1) yc1)).set_ 3 (.slice y2 (a.ln 2) yc2)).set_ 4 (.slice y3 (a.ln 3) yc3)).set_ 5 (.slice y4 (a.ln 4) yc4)).set_ 6 (.slice y5 (a.ln 5) yc5)).set_ 7 (.slice none 0 0)).set_ 8 (.slice y6 a.en yc6)), HO8_0.out.kept hks (fun g hg x => (HO8_0.out.ofT hg).ne HA8.out.ofT (by decide) (by exact x)), HO8_1.out.kept hks (fun g hg x => (HO8_1.out.ofT hg).ne HA8.out.ofT (by decide) (by exact x)), HO8_2.out.kept hks (fun g hg x => (HO8_2.out.ofT hg).ne HA8.out.ofT (by decide) (by exact x)), HO8_3.out.kept hks (fun g hg x => (HO8_3.out.ofT hg).ne HA8.out.ofT (by decide) (by exact x)), HO8_4.out.kept hks (fun g hg x => (HO8_4.out.ofT hg).ne HA8.out.ofT (by decide) (by exact x)), HO8_5.out.kept hks (fun g hg x => (HO8_5.out.ofT hg).ne HA8.out.ofT (by decide) (by exact x)), HO8_6.out.kept hks (fun g hg x => (HO8_6.out.ofT hg).ne HA8.out.ofT (by decide) (by exact x))⟩
      go_wp2_with fail
      go_meet
      exact ⟨ib, rfl, hfin, (HK0.out.then0 HK8.out).trans_ hks (fun i e => .inr (by have e' : i = ib := e; rw [e']; exact HL.out))⟩
  case rest =>
    obtain ⟨ib, rfl, hin, hkx⟩ := hcut
    obtain ⟨wA, hwA⟩ : ∃ z, z = wc := ⟨_, rfl⟩
    subst hwA
    obtain ⟨zt, hinfoT, hzsT⟩ := info_ex Tryz.infoFT
    obtain ⟨zc, hinfoC, hzsC⟩ := info_ex Tryz.infoCOMP
    have x0 : wA.cell? ⟨bx, 0, none⟩ = some (.slice a.ta a.tn a.tc) := (hkx.blk HX.out (fun x => x)).cell 0
    have HKX := Lib.hid hkx
    have HIN := Lib.hid hin
    have hsm := HI.out.ty.sm
    clear hkx hin
    go_wp2_with fail
    go_loopw [40] (fun i wr => ∃ (k : Nat) (tA : Option Addr) (tc : Nat) (G : Nat → Value), i = .int .i64 (k : Int) ∧ k ≤ a.tn ∧ InSt wr wa.heap.size ib a (.slice tA k tc) (.slice none 0 0) ∧ Own wr wa.heap.size 38 2 AnyV (.slice tA k tc) k G ∧ Kept S0 wa wr) (fun i _ => a.tn - (intOf i).toNat)
    case atStart => exact ⟨0, none, 0, fun _ => undef, rfl, by omega, HIN.out, Own.nil _ _ _ _ _ _, HKX.out⟩
    case round =>
      obtain ⟨k, tA, tc, G, rfl, hk, hin, how, hkr⟩ := hrel
      rcases Nat.lt_or_ge k a.tn with hlt | hge
      · have uj : IntKind.i64.wrap ((k : Int) + 1) = (k : Int) + 1 := IntWalk.i64_in _ (by omega)
        have hji : (k : Int) < (a.tn : Int) := by omega
        have hI := HI.out.kept hkr
        obtain ⟨A, np, c, v, C, nr, d, u, hf0, hf1, hA, hC⟩ := (hI.tyo k hlt).ex
        obtain ⟨g, o, hgo, hcs⟩ := hI.ty.sl (by omega)
        rw [hgo]
        have f0 : wr.cell? ⟨g, o + k * 2, none⟩ = some (.slice A np c) := by rw [hcs _ (by omega), hf0]
        have f1 : wr.cell? ⟨g, o + k * 2 + 1, none⟩ = some (.slice C nr d) := by rw [Nat.add_assoc, hcs _ (by omega), hf1]
        have hal : Kept S0 wr (wr.alloc (.cells #[.slice A np c, .slice C nr d] 38)) := (Kept.refl S0 wr).alloc _
        have HTB := Lib.hid (Blk.new wr 38 #[.slice A np c, .slice C nr d])
        have HAL := Lib.hid hal
        have HHA := Lib.hid hA
        have HHC := Lib.hid hC
        have HIW := Lib.hid hin
        have HOW := Lib.hid how
        have HKR := Lib.hid hkr
        clear hI hcs hf0 hf1 hA hC hin how hkr hal hgo x0
        go_wp2_with fail
        refine wp_region_R (fun w' => w'.cell? ⟨ib, 0, none⟩ = some (.slice tA k tc) ∧ w'.cell? ⟨wr.heap.size, 0, none⟩ = some (.slice A np c) ∧ w'.cell? ⟨wr.heap.size, 1, none⟩ = some (.slice C nr d)) [7] (by kernel_rfl) ?_
        have hkd : Kept S0 wr (wr.alloc (.cells #[.slice A np c, .slice C nr d] 38)).drew := HAL.out.drew
        have HTD := Lib.hid ((Kept.refl S0 _).drew.blk HTB.out (fun x => x))
        have hS : (wr.alloc (.cells #[.slice A np c, .slice C nr d] 38)).drew.cell? ⟨ib, 0, none⟩ = some (.slice tA k tc) ∧ (wr.alloc (.cells #[.slice A np c, .slice C nr d] 38)).drew.cell? ⟨wr.heap.size, 0, none⟩ = some (.slice A np c) ∧ (wr.alloc (.cells #[.slice A np c, .slice C nr d] 38)).drew.cell? ⟨wr.heap.size, 1, none⟩ = some (.slice C nr d) := ⟨keep0 hkd HIW.out.c0, HTD.out.cell 0, HTD.out.cell 1⟩
        have HKD := Lib.hid hkd
        have HTBN := Lib.hid (show ∀ g, (Value.slice tA k tc).ownBlock = some g → g < wr.heap.size from fun g hg => (HOW.out.lt g hg).2)
        clear HAL HTB hkd
        generalize (wr.alloc (.cells #[.slice A np c, .slice C nr d] 38)).drew = w1 at *
        generalize htb : wr.heap.size = tb at *
        clear htb
        (first | (refine tkR 0 (v := ?_) rfl hS ⟨by rfl, ?_⟩ ?_; rotate_left; intro w h; (try dsimp only at h); first | (go_simp; done) | (go_simp; with_reducible rfl)) | refine skR 0 rfl (fun _ => hS) (by rfl) ?_); simp only [zq1, zq2, Act.put, zq4, zq5, zq6]
        (first | (refine tkR 1 (v := ?_) rfl hS ⟨by rfl, ?_⟩ ?_; rotate_left; intro w h; (try dsimp only at h); first | (go_simp; done) | (go_simp; with_reducible rfl)) | refine skR 1 rfl (fun _ => hS) (by rfl) ?_); simp only [zq1, zq2, zq3, Act.put, zq4, zq5, zq6]
        (first | (refine tkR 2 (v := ?_) rfl hS ⟨by rfl, ?_⟩ ?_; rotate_left; intro w h; (try dsimp only at h); first | (go_simp; done) | (go_simp; with_reducible rfl)) | refine skR 2 rfl (fun _ => hS) (by rfl) ?_); simp only [zq1, zq2, zq3, Act.put, zq4, zq5, zq6]
        refine wpAnyR_one 3 rfl (by kernel_rfl) (fun K hK => ?_)
        go_simp
        go_at_call 41
        refine (own_any A np c v C nr d u w1 (HHA.out.kept HKD.out) (HHC.out.kept HKD.out)).mono ?_
        rintro e w2 ⟨y, z, rfl, ho1, ho2, hdj, hk2⟩
        obtain ⟨yA, yc, rfl, _, _, _⟩ := ho1.out
        obtain ⟨zA, zc', rfl, _, _, _⟩ := ho2.out
        have hS2 : w2.cell? ⟨ib, 0, none⟩ = some (.slice tA k tc) ∧ w2.cell? ⟨tb, 0, none⟩ = some (.slice A np c) ∧ w2.cell? ⟨tb, 1, none⟩ = some (.slice C nr d) := ⟨keep0 hk2 hS.1, keep0 hk2 hS.2.1, keep0 hk2 hS.2.2⟩
        refine hK.out _ _ (fun _ => hS2) ?_
        clear hK K ho1 ho2 hdj
        have HK2 := Lib.hid (HKD.out.then0 hk2)
        clear hk2 HKD HTD hS
        refine wpAnyR_one 4 rfl (by kernel_rfl) (fun K hK => ?_)
        go_simp
        have hal : Kept S0 w2 (w2.alloc (.cells #[.slice yA np yc, .slice zA nr zc'] 38)) := (Kept.refl S0 w2).alloc _
        have hnw := Blk.new w2 38 #[.slice yA np yc, .slice zA nr zc']
        have hS3 : (w2.alloc (.cells #[.slice yA np yc, .slice zA nr zc'] 38)).cell? ⟨ib, 0, none⟩ = some (.slice tA k tc) ∧ (w2.alloc (.cells #[.slice yA np yc, .slice zA nr zc'] 38)).cell? ⟨tb, 0, none⟩ = some (.slice A np c) ∧ (w2.alloc (.cells #[.slice yA np yc, .slice zA nr zc'] 38)).cell? ⟨tb, 1, none⟩ = some (.slice C nr d) := ⟨keep0 hal hS2.1, keep0 hal hS2.2.1, keep0 hal hS2.2.2⟩
        have hsl : Sl (w2.alloc (.cells #[.slice yA np yc, .slice zA nr zc'] 38)) (some ⟨w2.heap.size, 0, none⟩) (1 * 2) (ecell #[.slice yA np yc, .slice zA nr zc']) := fun _ => ⟨w2.heap.size, 0, rfl, fun i hi => by
          rw [Nat.zero_add]
          match i, hi with
          | 0, _ => exact hnw.cell 0
          | 1, _ => exact hnw.cell 1⟩
        have hone : ∀ j, j < 1 * 2 → (ecell #[.slice yA np yc, .slice zA nr zc'] j).oneCell' = true := fun i hi => by
          match i, hi with
          | 0, _ => rfl
          | 1, _ => rfl
        have HK3 := Lib.hid (HK2.out.then0 hal)
        have hoa := HOW.out.kept HK3.out (fun _ _ x => x)
        have HIW3 := Lib.hid (HIW.out.kept0 HK3.out)
        have hBa : wa.heap.size ≤ (w2.alloc (.cells #[.slice yA np yc, .slice zA nr zc'] 38)).heap.size := Nat.le_trans HKR.out.size HK3.out.size
        refine hK.out _ _ (fun _ => hS3) ?_
        clear hK K hS2 hnw hal HK2 HOW
        generalize w2.heap.size = nb at *
        generalize (w2.alloc (.cells #[.slice yA np yc, .slice zA nr zc'] 38)) = w3 at *
        refine wpAnyR_one 5 rfl (by kernel_rfl) (fun K hK => ?_)
        refine step_append_all rfl (.tmp 45) (.tmp 48) 72 rfl wa.heap.size 38 zt 2 48 Tryz.underlying72 hinfoT hzsT (by omega) AnyV (fun _ _ => trivial) _ k G rfl hoa (some ⟨nb, 0, none⟩) 1 1 (ecell #[.slice yA np yc, .slice zA nr zc']) rfl hsl (fun h => by cases h) (fun _ _ => trivial) hone (by unfold maxLen; omega) (by omega) hBa ?_
        intro v' w' ha
        obtain ⟨A', c', rfl, _, _, _⟩ := ha.own.out
        have hKw : Kept (fun g => (Value.slice tA k tc).ownBlock = some g) w3 w' := (Kept.refl _ w3).grown ⟨ha.grown.os, ha.grown.tape, ha.grown.output, ha.grown.size, ha.grown.block⟩ (fun g hg => .inl hg)
        have hin4 : InSt w' wa.heap.size ib a (.slice tA k tc) (.slice none 0 0) := HIW3.out.kept hKw (fun g hg _ => ⟨38, hoa.ofT hg, by decide, by decide, by decide⟩)
        have hK4 : Kept S0 wa w' := (HKR.out.then0 HK3.out).trans_ hKw (fun g hg => .inr (hoa.lt g hg).1)
        have x2 : w'.cell? ⟨ib, 0, none⟩ = some (.slice tA k tc) := hin4.c0
        have y2 := hin4.fz 0
        have HIW4 := Lib.hid hin4
        have HOW4 := Lib.hid ha.own
        have HK4 := Lib.hid hK4
        have hS4 : w'.cell? ⟨ib, 0, none⟩ = some (.slice tA k tc) ∧ w'.cell? ⟨tb, 0, none⟩ = some (.slice A np c) ∧ w'.cell? ⟨tb, 1, none⟩ = some (.slice C nr d) := ⟨x2, by rw [hKw.cell (p := ⟨tb, 0, none⟩) (World.block_lt_of_cell? _ _ hS3.2.1) (fun e => Nat.lt_irrefl _ (HTBN.out tb e))]; exact hS3.2.1, by rw [hKw.cell (p := ⟨tb, 1, none⟩) (World.block_lt_of_cell? _ _ hS3.2.2) (fun e => Nat.lt_irrefl _ (HTBN.out tb e))]; exact hS3.2.2⟩
        refine hK.out _ _ (fun _ => hS4) ?_
        clear hK K hS3 ha hKw hin4 hK4 hoa HIW3 HIW
        refine wpAnyR_late 6 (v := ?_) rfl (by kernel_rfl) (by kernel_rfl) (by kernel_rfl) (by kernel_rfl) (fun _ _ _ h => h) (fun _ => hS4) ⟨by rfl, ?_⟩ ?_
        rotate_left; (intro w; first | (go_simp; done) | (go_simp; with_reducible rfl))
        simp only [zq1, zq2, zq3, Act.put, zq4, zq5, zq6]
        refine wpAnyR_one 7 rfl (by kernel_rfl) (fun K hK => ?_)
        go_simp
        refine hK.out _ _ (fun h => absurd h (by decide)) ?_
        clear hK K
        refine wpAnyR_done (by kernel_rfl) ?_ _
        go_wp2_with fail
        go_roundw
        case rel => exact ⟨k + 1, A', c', _, by go_num, by omega, HIW4.out.setT _, HIW4.out.set_own HOW4.out (by decide), HK4.out.setCell (p := ⟨ib, 0, none⟩) (.inr HIW4.out.lo) _⟩
        case measure => simp [intOf]; omega
      · obtain rfl : k = a.tn := by omega
        have x7 : wr.cell? ⟨bx, 7, none⟩ = some (.slice a.ca a.cn a.cc) := (hkr.blk HX.out (fun x => x)).cell 7
        have HIN2 := Lib.hid hin
        have HKR := Lib.hid hkr
        clear hin how hkr HIN HKX x0
        have hsm2 := HI.out.co.sm
        clear hsm hk
        go_wp2_with fail
        go_loopw [55] (fun i wr => ∃ (k : Nat) (vA : Option Addr) (vn vc : Nat) (tA : Option Addr) (tc : Nat) (G : Nat → Value), i = .int .i64 (k : Int) ∧ k ≤ a.cn ∧ InSt wr wa.heap.size ib a (.slice vA vn vc) (.slice tA k tc) ∧ Own wr wa.heap.size 223 3 AnyV (.slice tA k tc) k G ∧ Kept S0 wa wr) (fun i _ => a.cn - (intOf i).toNat)
        case atStart => exact ⟨0, _, _, _, none, 0, fun _ => undef, rfl, by omega, HIN2.out, Own.nil _ _ _ _ _ _, HKR.out⟩
        case round =>
          clear HIN2 HKR
          obtain ⟨k, vA, vn, vc, tA, tc, G, rfl, hk, hin, how, hkr⟩ := hrel
          rcases Nat.lt_or_ge k a.cn with hlt | hge
          · have uj : IntKind.i64.wrap ((k : Int) + 1) = (k : Int) + 1 := IntWalk.i64_in _ (by omega)
            have hji : (k : Int) < (a.cn : Int) := by omega
            have hI := HI.out.kept hkr
            obtain ⟨L, ln, lc', LF, hi, O, on, oc, OF, hf0, hf1, hf2, hL, hL1, hFl, hO, hO1⟩ := (hI.coo k hlt).ex
            obtain ⟨g, o, hgo, hcs⟩ := hI.co.sl (by omega)
            rw [hgo]
            have f0 : wr.cell? ⟨g, o + k * 3, none⟩ = some (.slice L ln lc') := by rw [hcs _ (by omega), hf0]
            have f1 : wr.cell? ⟨g, o + k * 3 + 1, none⟩ = some (.int .i64 hi) := by rw [Nat.add_assoc, hcs _ (by omega), hf1]
            have f2 : wr.cell? ⟨g, o + k * 3 + 2, none⟩ = some (.slice O on oc) := by rw [Nat.add_assoc, hcs _ (by omega), hf2]
            have hal : Kept S0 wr (wr.alloc (.cells #[.slice L ln lc', .int .i64 hi, .slice O on oc] 223)) := (Kept.refl S0 wr).alloc _
            have HTB := Lib.hid (Blk.new wr 223 #[.slice L ln lc', .int .i64 hi, .slice O on oc])
            have HHL := Lib.hid (hL.kept hal)
            have HHO := Lib.hid (hO.kept hal)
            have HL1 := Lib.hid hL1
            have HO1 := Lib.hid hO1
            have HFL := Lib.hid (fun j (hj : j < ln) => (hFl j hj).keptS hal (fun _ _ x => x))
            have HIW := Lib.hid hin
            have HOW := Lib.hid how
            have HKR := Lib.hid (hkr.then0 hal)
            have HKA := Lib.hid hal
            have HTBN := Lib.hid (show ∀ g, (Value.slice tA k tc).ownBlock = some g → g < wr.heap.size from fun g hg => (how.lt g hg).2)
            clear hI hcs hf0 hf1 hf2 hL hL1 hFl hO hO1 hin how hkr hal hgo
            have b0 : (wr.alloc (.cells #[.slice L ln lc', .int .i64 hi, .slice O on oc] 223)).cell? ⟨wr.heap.size, 0, none⟩ = some (.slice L ln lc') := HTB.out.cell 0
            go_wp2_with fail
            refine (clone_flats L ln lc' LF _ HHL.out HL1.out).mono ?_
            rintro e w2 ⟨yA, yc, rfl, ho, hk2⟩
            have HYO := Lib.hid ho
            have HK2 := Lib.hid hk2
            have hlnb := HHL.out.sm
            clear ho hk2 b0
            generalize (wr.alloc (.cells #[.slice L ln lc', .int .i64 hi, .slice O on oc] 223)) = wal at *
            generalize htb : wr.heap.size = tb at *
            clear htb
            go_wp2_with fail
            go_loopw [65] (fun i wq => ∃ (j : Nat) (H : Nat → Value), i = .int .i64 (j : Int) ∧ j ≤ ln ∧ Own wq wal.heap.size 230 25 AnyV (.slice yA ln yc) ln H ∧ (∀ q, j * 25 ≤ q → q < ln * 25 → H q = LF q) ∧ Kept S0 wal wq) (fun i _ => ln - (intOf i).toNat)
            case atStart => exact ⟨0, _, rfl, by omega, HYO.out, fun _ _ _ => rfl, HK2.out⟩
            case round =>
              obtain ⟨j, H, rfl, hj, hy, hH, hkq⟩ := hrel
              rcases Nat.lt_or_ge j ln with hlj | hgj
              · have uj2 : IntKind.i64.wrap ((j : Int) + 1) = (j : Int) + 1 := IntWalk.i64_in _ (by omega)
                have hji2 : (j : Int) < (ln : Int) := by omega
                obtain ⟨A, np, c, v, C, nr, d, CF, hg0, hg1, hA, hC, hC1⟩ := (HFL.out j hlj).ex
                obtain ⟨yg, yc2, hye, _, _⟩ := hy.is_some (by omega)
                have hya : yA = some ⟨yg, 0, none⟩ := by injection hye
                subst hya
                have hSr : wr.cell? ⟨yg, j * 25 + 20, none⟩ = some (.slice A np c) ∧ wr.cell? ⟨yg, j * 25 + 24, none⟩ = some (.slice C nr d) := ⟨by rw [hy.rowcell (by omega), hH _ (by omega) (by omega), hg0], by rw [hy.rowcell (by omega), hH _ (by omega) (by omega), hg1]⟩
                have HA := Lib.hid (hA.kept hkq)
                have HC := Lib.hid (hC.kept hkq)
                have HC1 := Lib.hid hC1
                have HH := Lib.hid hH
                have HY := Lib.hid hy
                have HKQ := Lib.hid hkq
                clear hg0 hg1 hA hC hC1 hH hy hkq hye
                go_wp2_with fail
                refine wp_region_R (fun w' => w'.cell? ⟨yg, j * 25 + 20, none⟩ = some (.slice A np c) ∧ w'.cell? ⟨yg, j * 25 + 24, none⟩ = some (.slice C nr d)) [18, 21] (by kernel_rfl) ?_
                have hkd : Kept S0 wr wr.drew := (Kept.refl S0 wr).drew
                have hS : wr.drew.cell? ⟨yg, j * 25 + 20, none⟩ = some (.slice A np c) ∧ wr.drew.cell? ⟨yg, j * 25 + 24, none⟩ = some (.slice C nr d) := ⟨keep0 hkd hSr.1, keep0 hkd hSr.2⟩
                have HKD := Lib.hid hkd
                clear hSr hkd
                generalize wr.drew = w3 at *
                (first | (refine tkR 0 (v := ?_) rfl hS ⟨by rfl, ?_⟩ ?_; rotate_left; intro w h; (try dsimp only at h); first | (go_simp; done) | (go_simp; with_reducible rfl)) | refine skR 0 rfl (fun _ => hS) (by rfl) ?_); simp only [zq1, zq2, Act.put, zq4, zq5, zq6]
                (first | (refine tkR 1 (v := ?_) rfl hS ⟨by rfl, ?_⟩ ?_; rotate_left; intro w h; (try dsimp only at h); first | (go_simp; done) | (go_simp; with_reducible rfl)) | refine skR 1 rfl (fun _ => hS) (by rfl) ?_); simp only [zq1, zq2, zq3, Act.put, zq4, zq5, zq6]
                (first | (refine tkR 4 (v := ?_) rfl hS ⟨by rfl, ?_⟩ ?_; rotate_left; intro w h; (try dsimp only at h); first | (go_simp; done) | (go_simp; with_reducible rfl)) | refine skR 4 rfl (fun _ => hS) (by rfl) ?_); simp only [zq1, zq2, zq3, Act.put, zq4, zq5, zq6]
                (first | (refine tkR 5 (v := ?_) rfl hS ⟨by rfl, ?_⟩ ?_; rotate_left; intro w h; (try dsimp only at h); first | (go_simp; done) | (go_simp; with_reducible rfl)) | refine skR 5 rfl (fun _ => hS) (by rfl) ?_); simp only [zq1, zq2, zq3, Act.put, zq4, zq5, zq6]
                (first | (refine tkR 6 (v := ?_) rfl hS ⟨by rfl, ?_⟩ ?_; rotate_left; intro w h; (try dsimp only at h); first | (go_simp; done) | (go_simp; with_reducible rfl)) | refine skR 6 rfl (fun _ => hS) (by rfl) ?_); simp only [zq1, zq2, zq3, Act.put, zq4, zq5, zq6]
                (first | (refine tkR 7 (v := ?_) rfl hS ⟨by rfl, ?_⟩ ?_; rotate_left; intro w h; (try dsimp only at h); first | (go_simp; done) | (go_simp; with_reducible rfl)) | refine skR 7 rfl (fun _ => hS) (by rfl) ?_); simp only [zq1, zq2, zq3, Act.put, zq4, zq5, zq6]
                (first | (refine tkR 8 (v := ?_) rfl hS ⟨by rfl, ?_⟩ ?_; rotate_left; intro w h; (try dsimp only at h); first | (go_simp; done) | (go_simp; with_reducible rfl)) | refine skR 8 rfl (fun _ => hS) (by rfl) ?_); simp only [zq1, zq2, zq3, Act.put, zq4, zq5, zq6]
                refine wpAnyR_late 2 (v := ?_) rfl (by kernel_rfl) (by kernel_rfl) (by kernel_rfl) (by kernel_rfl) (fun _ _ _ h => h) (fun _ => hS) ⟨by rfl, ?_⟩ ?_
                rotate_left; (intro w; first | (go_simp; done) | (go_simp; with_reducible rfl))
                simp only [zq1, zq2, zq3, Act.put, zq4, zq5, zq6]
                refine wpAnyR_late 3 (v := ?_) rfl (by kernel_rfl) (by kernel_rfl) (by kernel_rfl) (by kernel_rfl) (fun _ _ _ h => h) (fun _ => hS) ⟨by rfl, ?_⟩ ?_
                rotate_left; (intro w; first | (go_simp; done) | (go_simp; with_reducible rfl))
                simp only [zq1, zq2, zq3, Act.put, zq4, zq5, zq6]
                refine wpAnyR_late 10 (v := ?_) rfl (by kernel_rfl) (by kernel_rfl) (by kernel_rfl) (by kernel_rfl) (fun _ _ _ h => h) (fun _ => hS) ⟨by rfl, ?_⟩ ?_
                rotate_left; (intro w; first | (go_simp; done) | (go_simp; with_reducible rfl))
                simp only [zq1, zq2, zq3, Act.put, zq4, zq5, zq6]
                refine wpAnyR_late 11 (v := ?_) rfl (by kernel_rfl) (by kernel_rfl) (by kernel_rfl) (by kernel_rfl) (fun _ _ _ h => h) (fun _ => hS) ⟨by rfl, ?_⟩ ?_
                rotate_left; (intro w; first | (go_simp; done) | (go_simp; with_reducible rfl))
                simp only [zq1, zq2, zq3, Act.put, zq4, zq5, zq6]
                refine wpAnyR_late 12 (v := ?_) rfl (by kernel_rfl) (by kernel_rfl) (by kernel_rfl) (by kernel_rfl) (fun _ _ _ h => h) (fun _ => hS) ⟨by rfl, ?_⟩ ?_
                rotate_left; (intro w; first | (go_simp; done) | (go_simp; with_reducible rfl))
                simp only [zq1, zq2, zq3, Act.put, zq4, zq5, zq6]
                refine wpAnyR_late 13 (v := ?_) rfl (by kernel_rfl) (by kernel_rfl) (by kernel_rfl) (by kernel_rfl) (fun _ _ _ h => h) (fun _ => hS) ⟨by rfl, ?_⟩ ?_
                rotate_left; (intro w; first | (go_simp; done) | (go_simp; with_reducible rfl))
                simp only [zq1, zq2, zq3, Act.put, zq4, zq5, zq6]
                (first | (refine tkR 14 (v := ?_) rfl hS ⟨by rfl, ?_⟩ ?_; rotate_left; intro w h; (try dsimp only at h); first | (go_simp; done) | (go_simp; with_reducible rfl)) | refine skR 14 rfl (fun _ => hS) (by rfl) ?_); simp only [zq1, zq2, zq3, Act.put, zq4, zq5, zq6]
                refine wpAnyR_one 9 rfl (by kernel_rfl) (fun K hK => ?_)
                go_simp
                go_at_call 79
                refine (clonet_any A np c v w3 (HA.out.kept HKD.out).sl (HA.out.kept HKD.out).z (HA.out.kept HKD.out).sz).mono ?_
                rintro e w4 ⟨y, rfl, ho1, hk4⟩
                obtain ⟨zA, zc1, rfl, _, _, _⟩ := ho1.out
                have hS4 : w4.cell? ⟨yg, j * 25 + 20, none⟩ = some (.slice A np c) ∧ w4.cell? ⟨yg, j * 25 + 24, none⟩ = some (.slice C nr d) := ⟨keep0 hk4 hS.1, keep0 hk4 hS.2⟩
                have HK4 := Lib.hid (HKD.out.then0 hk4)
                refine hK.out _ _ (fun _ => hS4) ?_
                clear hK K hS hk4 ho1
                refine wpAnyR_one 15 rfl (by kernel_rfl) (fun K hK => ?_)
                go_simp
                go_at_call 106
                refine (clone_goals C nr d CF w4 (HC.out.kept HK4.out) HC1.out).mono ?_
                rintro e w5 ⟨zB, zc2, rfl, ho2, hk5⟩
                have hS5 : w5.cell? ⟨yg, j * 25 + 20, none⟩ = some (.slice A np c) ∧ w5.cell? ⟨yg, j * 25 + 24, none⟩ = some (.slice C nr d) := ⟨keep0 hk5 hS4.1, keep0 hk5 hS4.2⟩
                have HK5 := Lib.hid (HK4.out.then0 hk5)
                refine hK.out _ _ (fun _ => hS5) ?_
                clear hK K hS4 hk5 ho2
                refine wpAnyR_late 16 (v := ?_) rfl (by kernel_rfl) (by kernel_rfl) (by kernel_rfl) (by kernel_rfl) (fun _ _ _ h => h) (fun _ => hS5) ⟨by rfl, ?_⟩ ?_
                rotate_left; (intro w; first | (go_simp; done) | (go_simp; with_reducible rfl))
                simp only [zq1, zq2, zq3, Act.put, zq4, zq5, zq6]
                refine wpAnyR_late 17 (v := ?_) rfl (by kernel_rfl) (by kernel_rfl) (by kernel_rfl) (by kernel_rfl) (fun _ _ _ h => h) (fun _ => hS5) ⟨by rfl, ?_⟩ ?_
                rotate_left; (intro w; first | (go_simp; done) | (go_simp; with_reducible rfl))
                simp only [zq1, zq2, zq3, Act.put, zq4, zq5, zq6]
                have hy5 := HY.out.kept HK5.out (fun _ _ x => x)
                have p1 := hS5.1
                have p2 := hS5.2
                have z1 := hy5.frozen (j * 25 + 20)
                refine wpAnyR_one 18 rfl (by kernel_rfl) (fun K hK => ?_)
                go_simp
                refine hK.out _ _ (fun h => absurd h (by decide)) ?_
                clear hK K hS5
                refine wpAnyR_late 19 (v := ?_) rfl (by kernel_rfl) (by kernel_rfl) (by kernel_rfl) (by kernel_rfl) (fun _ _ _ h => h) (fun h => absurd h (by decide)) ⟨by rfl, ?_⟩ ?_
                rotate_left; (intro w; first | (go_simp; done) | (go_simp; with_reducible rfl))
                simp only [zq1, zq2, zq3, Act.put, zq4, zq5, zq6]
                refine wpAnyR_late 20 (v := ?_) rfl (by kernel_rfl) (by kernel_rfl) (by kernel_rfl) (by kernel_rfl) (fun _ _ _ h => h) (fun h => absurd h (by decide)) ⟨by rfl, ?_⟩ ?_
                rotate_left; (intro w; first | (go_simp; done) | (go_simp; with_reducible rfl))
                simp only [zq1, zq2, zq3, Act.put, zq4, zq5, zq6]
                have hy6 := hy5.set1 (j := j * 25 + 20) (.slice zA np zc1)
                have z2 := hy6.frozen (j * 25 + 24)
                have p3 : (w5.setCell ⟨yg, j * 25 + 20, none⟩ (.slice zA np zc1)).cell? ⟨yg, j * 25 + 24, none⟩ = some (H (j * 25 + 24)) := by rw [hy6.rowcell (by omega)]; simp
                refine wpAnyR_one 21 rfl (by kernel_rfl) (fun K hK => ?_)
                go_simp
                refine hK.out _ _ (fun h => absurd h (by decide)) ?_
                clear hK K
                refine wpAnyR_done (by kernel_rfl) ?_ _
                have HY7 := Lib.hid (hy6.set1 (j := j * 25 + 24) (.slice zB nr zc2))
                have HK7 := Lib.hid (((HKQ.out.then0 HK5.out).setCell (p := ⟨yg, j * 25 + 20, none⟩) (.inr (HY.out.lt yg rfl).1) (.slice zA np zc1)).setCell (p := ⟨yg, j * 25 + 24, none⟩) (.inr (HY.out.lt yg rfl).1) (.slice zB nr zc2))
                clear hy5 hy6 p1 p2 p3 z1 z2
                generalize ((w5.setCell ⟨yg, j * 25 + 20, none⟩ (.slice zA np zc1)).setCell ⟨yg, j * 25 + 24, none⟩ (.slice zB nr zc2)) = w7 at *
                go_wp2_with fail
                go_roundw
                case rel => exact ⟨j + 1, _, by go_num, by omega, HY7.out, fun q h1 h2 => by
                  show (if q = j * 25 + 24 then _ else if q = j * 25 + 20 then _ else H q) = LF q
                  rw [if_neg (by omega), if_neg (by omega)]
                  exact HH.out q (by omega) h2, HK7.out⟩
                case measure => simp [intOf]; omega
              · have HKQ := Lib.hid hkq
                clear hy hH hkq HYO HK2 HHL HL1 HFL
                have hix : InSt wr wa.heap.size ib a (.slice vA vn vc) (.slice tA k tc) := HIW.out.kept0 (HKA.out.then0 HKQ.out)
                go_wp2_with fail
                refine wp_region_R (fun w' => w'.cell? ⟨ib, 7, none⟩ = some (.slice tA k tc) ∧ w'.cell? ⟨tb, 1, none⟩ = some (.int .i64 hi) ∧ w'.cell? ⟨tb, 2, none⟩ = some (.slice O on oc)) [14] (by kernel_rfl) ?_
                have hkd : Kept S0 wal wr.drew := HKQ.out.drew
                have hS : wr.drew.cell? ⟨ib, 7, none⟩ = some (.slice tA k tc) ∧ wr.drew.cell? ⟨tb, 1, none⟩ = some (.int .i64 hi) ∧ wr.drew.cell? ⟨tb, 2, none⟩ = some (.slice O on oc) := ⟨keep0 ((Kept.refl S0 wr).drew) hix.c7, keep0 hkd (HTB.out.cell 1), keep0 hkd (HTB.out.cell 2)⟩
                have HKD := Lib.hid hkd
                clear hkd hix
                generalize wr.drew = w3 at *
                (first | (refine tkR 0 (v := ?_) rfl hS ⟨by rfl, ?_⟩ ?_; rotate_left; intro w h; (try dsimp only at h); first | (go_simp; done) | (go_simp; with_reducible rfl)) | refine skR 0 rfl (fun _ => hS) (by rfl) ?_); simp only [zq1, zq2, Act.put, zq4, zq5, zq6]
                (first | (refine tkR 1 (v := ?_) rfl hS ⟨by rfl, ?_⟩ ?_; rotate_left; intro w h; (try dsimp only at h); first | (go_simp; done) | (go_simp; with_reducible rfl)) | refine skR 1 rfl (fun _ => hS) (by rfl) ?_); simp only [zq1, zq2, zq3, Act.put, zq4, zq5, zq6]
                (first | (refine tkR 2 (v := ?_) rfl hS ⟨by rfl, ?_⟩ ?_; rotate_left; intro w h; (try dsimp only at h); first | (go_simp; done) | (go_simp; with_reducible rfl)) | refine skR 2 rfl (fun _ => hS) (by rfl) ?_); simp only [zq1, zq2, zq3, Act.put, zq4, zq5, zq6]
                (first | (refine tkR 3 (v := ?_) rfl hS ⟨by rfl, ?_⟩ ?_; rotate_left; intro w h; (try dsimp only at h); first | (go_simp; done) | (go_simp; with_reducible rfl)) | refine skR 3 rfl (fun _ => hS) (by rfl) ?_); simp only [zq1, zq2, zq3, Act.put, zq4, zq5, zq6]
                (first | (refine tkR 4 (v := ?_) rfl hS ⟨by rfl, ?_⟩ ?_; rotate_left; intro w h; (try dsimp only at h); first | (go_simp; done) | (go_simp; with_reducible rfl)) | refine skR 4 rfl (fun _ => hS) (by rfl) ?_); simp only [zq1, zq2, zq3, Act.put, zq4, zq5, zq6]
                (first | (refine tkR 5 (v := ?_) rfl hS ⟨by rfl, ?_⟩ ?_; rotate_left; intro w h; (try dsimp only at h); first | (go_simp; done) | (go_simp; with_reducible rfl)) | refine skR 5 rfl (fun _ => hS) (by rfl) ?_); simp only [zq1, zq2, zq3, Act.put, zq4, zq5, zq6]
                (first | (refine tkR 6 (v := ?_) rfl hS ⟨by rfl, ?_⟩ ?_; rotate_left; intro w h; (try dsimp only at h); first | (go_simp; done) | (go_simp; with_reducible rfl)) | refine skR 6 rfl (fun _ => hS) (by rfl) ?_); simp only [zq1, zq2, zq3, Act.put, zq4, zq5, zq6]
                (first | (refine tkR 7 (v := ?_) rfl hS ⟨by rfl, ?_⟩ ?_; rotate_left; intro w h; (try dsimp only at h); first | (go_simp; done) | (go_simp; with_reducible rfl)) | refine skR 7 rfl (fun _ => hS) (by rfl) ?_); simp only [zq1, zq2, zq3, Act.put, zq4, zq5, zq6]
                (first | (refine tkR 8 (v := ?_) rfl hS ⟨by rfl, ?_⟩ ?_; rotate_left; intro w h; (try dsimp only at h); first | (go_simp; done) | (go_simp; with_reducible rfl)) | refine skR 8 rfl (fun _ => hS) (by rfl) ?_); simp only [zq1, zq2, zq3, Act.put, zq4, zq5, zq6]
                refine wpAnyR_one 9 rfl (by kernel_rfl) (fun K hK => ?_)
                go_simp
                go_at_call 107
                refine (clone_locals O on oc OF w3 (HHO.out.kept HKD.out) HO1.out).mono ?_
                rintro e w4 ⟨zA, zc1, rfl, _, hk4⟩
                have hS4 : w4.cell? ⟨ib, 7, none⟩ = some (.slice tA k tc) ∧ w4.cell? ⟨tb, 1, none⟩ = some (.int .i64 hi) ∧ w4.cell? ⟨tb, 2, none⟩ = some (.slice O on oc) := ⟨keep0 hk4 hS.1, keep0 hk4 hS.2.1, keep0 hk4 hS.2.2⟩
                have HK4 := Lib.hid (HKD.out.then0 hk4)
                refine hK.out _ _ (fun _ => hS4) ?_
                clear hK K hS hk4
                (first | (refine tkR 10 (v := ?_) rfl hS4 ⟨by rfl, ?_⟩ ?_; rotate_left; intro w h; (try dsimp only at h); first | (go_simp; done) | (go_simp; with_reducible rfl)) | refine skR 10 rfl (fun _ => hS4) (by rfl) ?_); simp only [zq1, zq2, zq3, Act.put, zq4, zq5, zq6]
                refine wpAnyR_one 11 rfl (by kernel_rfl) (fun K hK => ?_)
                go_simp
                have hal : Kept S0 w4 (w4.alloc (.cells #[.slice yA ln yc, .int .i64 hi, .slice zA on zc1] 223)) := (Kept.refl S0 w4).alloc _
                have hnw := Blk.new w4 223 #[.slice yA ln yc, .int .i64 hi, .slice zA on zc1]
                have hS5 : (w4.alloc (.cells #[.slice yA ln yc, .int .i64 hi, .slice zA on zc1] 223)).cell? ⟨ib, 7, none⟩ = some (.slice tA k tc) ∧ (w4.alloc (.cells #[.slice yA ln yc, .int .i64 hi, .slice zA on zc1] 223)).cell? ⟨tb, 1, none⟩ = some (.int .i64 hi) ∧ (w4.alloc (.cells #[.slice yA ln yc, .int .i64 hi, .slice zA on zc1] 223)).cell? ⟨tb, 2, none⟩ = some (.slice O on oc) := ⟨keep0 hal hS4.1, keep0 hal hS4.2.1, keep0 hal hS4.2.2⟩
                have hsl : Sl (w4.alloc (.cells #[.slice yA ln yc, .int .i64 hi, .slice zA on zc1] 223)) (some ⟨w4.heap.size, 0, none⟩) (1 * 3) (ecell #[.slice yA ln yc, .int .i64 hi, .slice zA on zc1]) := fun _ => ⟨w4.heap.size, 0, rfl, fun i hi => by
                  rw [Nat.zero_add]
                  match i, hi with
                  | 0, _ => exact hnw.cell 0
                  | 1, _ => exact hnw.cell 1
                  | 2, _ => exact hnw.cell 2⟩
                have hone : ∀ j, j < 1 * 3 → (ecell #[.slice yA ln yc, .int .i64 hi, .slice zA on zc1] j).oneCell' = true := fun i hi => by
                  match i, hi with
                  | 0, _ => rfl
                  | 1, _ => rfl
                  | 2, _ => rfl
                have HK5 := Lib.hid (HKA.out.then0 (HK4.out.then0 hal))
                have hoa := HOW.out.kept HK5.out (fun _ _ x => x)
                have HIW5 := Lib.hid (HIW.out.kept0 HK5.out)
                have HK5a := Lib.hid (HKR.out.then0 (HK4.out.then0 hal))
                have hBa : wa.heap.size ≤ (w4.alloc (.cells #[.slice yA ln yc, .int .i64 hi, .slice zA on zc1] 223)).heap.size := HK5a.out.size
                refine hK.out _ _ (fun _ => hS5) ?_
                clear hK K hS4 hnw hal HK4 HOW HKD HKQ
                generalize w4.heap.size = nb at *
                generalize (w4.alloc (.cells #[.slice yA ln yc, .int .i64 hi, .slice zA on zc1] 223)) = w5 at *
                refine wpAnyR_one 12 rfl (by kernel_rfl) (fun K hK => ?_)
                refine step_append_all rfl (.tmp 90) (.tmp 100) 74 rfl wa.heap.size 223 zc 3 56 Tryz.underlying74 hinfoC hzsC (by omega) AnyV (fun _ _ => trivial) _ k G rfl hoa (some ⟨nb, 0, none⟩) 1 1 (ecell #[.slice yA ln yc, .int .i64 hi, .slice zA on zc1]) rfl hsl (fun h => by cases h) (fun _ _ => trivial) hone (by unfold maxLen; omega) (by omega) hBa ?_
                intro v' w' ha
                obtain ⟨A', c', rfl, _, _, _⟩ := ha.own.out
                have hKw : Kept (fun g => (Value.slice tA k tc).ownBlock = some g) w5 w' := (Kept.refl _ w5).grown ⟨ha.grown.os, ha.grown.tape, ha.grown.output, ha.grown.size, ha.grown.block⟩ (fun g hg => .inl hg)
                have hin4 : InSt w' wa.heap.size ib a (.slice vA vn vc) (.slice tA k tc) := HIW5.out.kept hKw (fun g hg _ => ⟨223, hoa.ofT hg, by decide, by decide, by decide⟩)
                have hK4 : Kept S0 wa w' := HK5a.out.trans_ hKw (fun g hg => .inr (hoa.lt g hg).1)
                have x2 : w'.cell? ⟨ib, 7, none⟩ = some (.slice tA k tc) := hin4.c7
                have y2 := hin4.fz 7
                have HIW4 := Lib.hid hin4
                have HOW4 := Lib.hid ha.own
                have HK4 := Lib.hid hK4
                have hS6 : w'.cell? ⟨ib, 7, none⟩ = some (.slice tA k tc) ∧ w'.cell? ⟨tb, 1, none⟩ = some (.int .i64 hi) ∧ w'.cell? ⟨tb, 2, none⟩ = some (.slice O on oc) := ⟨x2, by rw [hKw.cell (p := ⟨tb, 1, none⟩) (World.block_lt_of_cell? _ _ hS5.2.1) (fun e => Nat.lt_irrefl _ (HTBN.out tb e))]; exact hS5.2.1, by rw [hKw.cell (p := ⟨tb, 2, none⟩) (World.block_lt_of_cell? _ _ hS5.2.2) (fun e => Nat.lt_irrefl _ (HTBN.out tb e))]; exact hS5.2.2⟩
                refine hK.out _ _ (fun _ => hS6) ?_
                clear hK K hS5 ha hKw hin4 hK4 hoa HIW5 HIW
                refine wpAnyR_late 13 (v := ?_) rfl (by kernel_rfl) (by kernel_rfl) (by kernel_rfl) (by kernel_rfl) (fun _ _ _ h => h) (fun _ => hS6) ⟨by rfl, ?_⟩ ?_
                rotate_left; (intro w; first | (go_simp; done) | (go_simp; with_reducible rfl))
                simp only [zq1, zq2, zq3, Act.put, zq4, zq5, zq6]
                refine wpAnyR_one 14 rfl (by kernel_rfl) (fun K hK => ?_)
                go_simp
                refine hK.out _ _ (fun h => absurd h (by decide)) ?_
                clear hK K
                refine wpAnyR_done (by kernel_rfl) ?_ _
                go_wp2_with fail
                go_roundw
                case rel => exact ⟨k + 1, _, _, _, A', c', _, by go_num, by omega, HIW4.out.setC _, HIW4.out.set_own HOW4.out (by decide), HK4.out.setCell (p := ⟨ib, 7, none⟩) (.inr HIW4.out.lo) _⟩
                case measure => simp [intOf]; omega
          · have hb1 := hkr.blk HB.out (fun x => x)
            have ho1 := HO.out.kept hkr (fun _ _ x => x)
            have HKR := Lib.hid (HK.out.then0 hkr)
            have HIW := Lib.hid hin
            have hbw : B ≤ wr.heap.size := Nat.le_trans HBW.out (Nat.le_trans HXS.out hkr.size)
            have hadd := add_INST 7 (some ⟨ib, 0, none⟩) hb1 rfl ho1 hn hbw
            have HTY := Lib.hid (show ∀ g, ST sb (.slice lA n lc) g → g < wr.heap.size → ∃ t, OfT wr t g ∧ t ≠ 77 ∧ t ≠ 3 ∧ t ≠ 158 from fun g hg _ => by
              rcases hg with e | e
              · subst e; exact ⟨_, hb1.ofT, by decide, by decide, by decide⟩
              · exact ⟨_, ho1.ofT e, by decide, by decide, by decide⟩)
            clear hin how hkr hb1 ho1 hbw
            go_wp2_with fail
            refine hadd.mono ?_
            clear hadd
            rintro e w9 ⟨rfl, lv', hb9, ho9, hk9, hl9⟩
            have HF := Lib.hid (And.intro hb9 (And.intro ho9 (And.intro hk9 hl9)))
            clear hb9 ho9 hk9 hl9
            go_wp2_with fail
            obtain ⟨hb9, ho9, hk9, hl9⟩ := HF.out
            have hi9 : InSt w9 wa.heap.size ib a (.slice vA vn vc) (.slice tA k tc) := HIW.out.kept hk9 HTY.out
            go_ret2
            refine ⟨rfl, ⟨ib, _, _, _, _, _, _, lv', hb9, ho9, hi9.mono (by rw [hbx]; exact HXS.out), hl9.imp id (fun ⟨g, h1, h2⟩ => ⟨g, h1, Nat.le_trans HKR.out.size h2⟩)⟩, (HKR.out.of0 _).trans hk9⟩
end
end Go.Proofs.YtlnkdnmeikpckaaGreat
