/- What the proofs lean on, part 7 of St. No condition. -/
import Derived.Test.YtlnkdnmeikpckaaGreatMSta
import Derived.Test.YtlnkdnmeikpckaaGreatMStb
import Derived.Test.YtlnkdnmeikpckaaGreatMStc
import Derived.Test.YtlnkdnmeikpckaaGreatMStd
import Derived.Test.YtlnkdnmeikpckaaGreatMStf
namespace Go.Proofs.YtlnkdnmeikpckaaGreat
open Go.RowKit
set_option maxRecDepth 100000
section
variable {w : World} {sb B n : Nat} {fl tl ml gl el dl il : Value} {F : Nat → Value}
set_option maxRecDepth 100000 in
set_option maxHeartbeats 3200000 in
theorem setglob_err (a : Nat) (gt : Int) (x : V3) (hx : 0 ≤ x.lo ∧ x.lo ≤ 18446744073709551615) (hb : Blk w sb 132 (stCells fl tl ml gl el dl il)) (hown : Own w B 149 5 AnyV gl n F) (hn : n ≤ 65536) (ha : a < n) (f0 : F (a * 5) = .int .u8 gt) (hE : globB gt x = false) :
    Calls Tryz.prog 109 #[.pointer (some ⟨sb, 0, none⟩), .int .i64 (a : Int), .agg #[.int .u8 x.t, .int .u64 x.lo, .int .u64 x.hi]] w fun e w' => e = .returned (.int .i64 2) ∧ Kept S0 w w' := by
  obtain ⟨xt, xl, xh⟩ := x
  dsimp only at hx
  obtain ⟨g, fc, hfl, _, _⟩ := hown.is_some (by omega)
  subst hfl
  have hka : Kept S0 w (w.alloc (.cells #[.int .u8 xt, .int .u64 xl, .int .u64 xh] 65)) := (Kept.refl S0 w).alloc _
  have hb1 := hka.blk hb (fun x => x)
  have ho1 := hown.kept hka (fun _ _ x => x)
  have c0 : (w.alloc (.cells #[.int .u8 xt, .int .u64 xl, .int .u64 xh] 65)).cell? ⟨sb, 0, none⟩ = some (.bool true) := hb1.cell 0
  have c1 : (w.alloc (.cells #[.int .u8 xt, .int .u64 xl, .int .u64 xh] 65)).cell? ⟨sb, 4, none⟩ = some (.slice (some ⟨g, 0, none⟩) n fc) := hb1.cell 4
  have HX := Lib.hid (Blk.new w 65 #[.int .u8 xt, .int .u64 xl, .int .u64 xh])
  have HG := Lib.hid (ho1.rowcell (j := a * 5) (by omega) |>.trans (congrArg some f0))
  have HO := Lib.hid ho1
  have HB := Lib.hid hb1
  have HK := Lib.hid hka
  have HGL := Lib.hid (show g < w.heap.size from (hown.lt g rfl).2)
  have HHAS := Lib.hid (fun w => has_any xt xl xh w hx.1 hx.2)
  clear hb hown hb1 ho1 hka f0
  have hcase : (xt == gt) = false ∨ (xt == gt) = true ∧ hasB xt xl xh = false := by
    unfold globB at hE; dsimp only at hE; cases h : (xt == gt) with
    | false => exact .inl rfl
    | true => rw [h] at hE; exact .inr ⟨rfl, by simpa using hE⟩
  clear hE
  rcases hcase with ht | ⟨ht, hh⟩
  · have htt : (xt != gt) = true := by unfold bne; rw [ht]; rfl
    clear ht
    go_enter Tryz.func109, Tryz.ntmps109
    go_wp2_with fail
    refine (off_made _ _ c0).mono ?_
    rintro e w1 ⟨rfl, rfl⟩
    go_wp2_with fail
    refine (at_GLOB_in a g c1 hn ha).mono ?_
    rintro e w1 ⟨rfl, rfl⟩
    clear c0 c1
    go_wp2_with fail
    generalize w.alloc (.cells #[.int .u8 xt, .int .u64 xl, .int .u64 xh] 65) = w1 at *
    generalize hbx : w.heap.size = bx at *
    have hS : w1.drew.cell? ⟨bx, 0, none⟩ = some (.int .u8 xt) ∧ w1.drew.cell? ⟨bx, 1, none⟩ = some (.int .u64 xl) ∧ w1.drew.cell? ⟨bx, 2, none⟩ = some (.int .u64 xh) ∧ w1.drew.cell? ⟨g, a * 5, none⟩ = some (.int .u8 gt) := ⟨HX.out.cell 0, HX.out.cell 1, HX.out.cell 2, HG.out⟩
    refine wp_region_R (fun w' => w'.cell? ⟨bx, 0, none⟩ = some (.int .u8 xt) ∧ w'.cell? ⟨bx, 1, none⟩ = some (.int .u64 xl) ∧ w'.cell? ⟨bx, 2, none⟩ = some (.int .u64 xh) ∧ w'.cell? ⟨g, a * 5, none⟩ = some (.int .u8 gt)) [] (by kernel_rfl) ?_
    have hdd := (Kept.refl S0 w1).drew
    have HX2 := Lib.hid HX.out.drew
    have HO2 := Lib.hid (HO.out.kept hdd (fun _ _ x => x))
    have HB2 := Lib.hid HB.out.drew
    have HK2 := Lib.hid HK.out.drew
    clear hdd HX HO HB HK HG
    generalize w1.drew = w2 at *
    (first | (refine tkR 0 (v := ?_) rfl hS ⟨by rfl, ?_⟩ ?_; rotate_left; intro w h; (try dsimp only at h); first | (go_simp; done) | (go_simp; with_reducible rfl)) | refine skR 0 rfl (fun _ => hS) (by rfl) ?_); simp only [zq1, zq2, Act.put, zq4, zq5, zq6]
    (first | (refine tkR 1 (v := ?_) rfl hS ⟨by rfl, ?_⟩ ?_; rotate_left; intro w h; (try dsimp only at h); first | (go_simp; done) | (go_simp; with_reducible rfl)) | refine skR 1 rfl (fun _ => hS) (by rfl) ?_); simp only [zq1, zq2, zq3, Act.put, zq4, zq5, zq6]
    (first | (refine tkR 2 (v := ?_) rfl hS ⟨by rfl, ?_⟩ ?_; rotate_left; intro w h; (try dsimp only at h); first | (go_simp; done) | (go_simp; with_reducible rfl)) | refine skR 2 rfl (fun _ => hS) (by rfl) ?_); simp only [zq1, zq2, zq3, Act.put, zq4, zq5, zq6]
    (first | (refine tkR 3 (v := ?_) rfl hS ⟨by rfl, ?_⟩ ?_; rotate_left; intro w h; (try dsimp only at h); first | (go_simp; done) | (go_simp; with_reducible rfl)) | refine skR 3 rfl (fun _ => hS) (by rfl) ?_); simp only [zq1, zq2, zq3, Act.put, zq4, zq5, zq6]
    (first | (refine tkR 4 (v := ?_) rfl hS ⟨by rfl, ?_⟩ ?_; rotate_left; intro w h; (try dsimp only at h); first | (go_simp; done) | (go_simp; with_reducible rfl)) | refine skR 4 rfl (fun _ => hS) (by rfl) ?_); simp only [zq1, zq2, zq3, Act.put, zq4, zq5, zq6]
    (first | (refine tkR 5 (v := ?_) rfl hS ⟨by rfl, ?_⟩ ?_; rotate_left; intro w h; (try dsimp only at h); first | (go_simp; done) | (go_simp; with_reducible rfl)) | refine skR 5 rfl (fun _ => hS) (by rfl) ?_); simp only [zq1, zq2, zq3, Act.put, zq4, zq5, zq6]
    (first | (refine tkR 6 (v := ?_) rfl hS ⟨by rfl, ?_⟩ ?_; rotate_left; intro w h; (try dsimp only at h); first | (go_simp; done) | (go_simp; with_reducible rfl)) | refine skR 6 rfl (fun _ => hS) (by rfl) ?_); simp only [zq1, zq2, zq3, Act.put, zq4, zq5, zq6]
    (first | (refine tkR 7 (v := ?_) rfl hS ⟨by rfl, ?_⟩ ?_; rotate_left; intro w h; (try dsimp only at h); first | (go_simp; done) | (go_simp; with_reducible rfl)) | refine skR 7 rfl (fun _ => hS) (by rfl) ?_); simp only [zq1, zq2, zq3, Act.put, zq4, zq5, zq6]
    (first | (refine tkR 8 (v := ?_) rfl hS ⟨by rfl, ?_⟩ ?_; rotate_left; intro w h; (try dsimp only at h); first | (go_simp; done) | (go_simp; with_reducible rfl)) | refine skR 8 rfl (fun _ => hS) (by rfl) ?_); simp only [zq1, zq2, zq3, Act.put, zq4, zq5, zq6]
    (first | (refine tkR 9 (v := ?_) rfl hS ⟨by rfl, ?_⟩ ?_; rotate_left; intro w h; (try dsimp only at h); first | (go_simp; done) | (go_simp; with_reducible rfl)) | refine skR 9 rfl (fun _ => hS) (by rfl) ?_); simp only [zq1, zq2, zq3, Act.put, zq4, zq5, zq6]
    (first | (refine tkR 10 (v := ?_) rfl hS ⟨by rfl, ?_⟩ ?_; rotate_left; intro w h; (try dsimp only at h); first | (go_simp; done) | (go_simp; with_reducible rfl)) | refine skR 10 rfl (fun _ => hS) (by rfl) ?_); simp only [zq1, zq2, zq3, Act.put, zq4, zq5, zq6]
    (first | (refine tkR 11 (v := ?_) rfl hS ⟨by rfl, ?_⟩ ?_; rotate_left; intro w h; (try dsimp only at h); first | (go_simp; done) | (go_simp; with_reducible rfl)) | refine skR 11 rfl (fun _ => hS) (by rfl) ?_); simp only [zq1, zq2, zq3, Act.put, zq4, zq5, zq6]
    (first | (refine tkR 12 (v := ?_) rfl hS ⟨by rfl, ?_⟩ ?_; rotate_left; intro w h; (try dsimp only at h); first | (go_simp; done) | (go_simp; with_reducible rfl)) | refine skR 12 rfl (fun _ => hS) (by rfl) ?_); simp only [zq1, zq2, zq3, Act.put, zq4, zq5, zq6]
    (first | (refine tkR 13 (v := ?_) rfl hS ⟨by rfl, ?_⟩ ?_; rotate_left; intro w h; (try dsimp only at h); first | (go_simp; done) | (go_simp; with_reducible rfl)) | refine skR 13 rfl (fun _ => hS) (by rfl) ?_); simp only [zq1, zq2, zq3, Act.put, zq4, zq5, zq6]
    refine wpAnyR_done (by kernel_rfl) ?_ _
    go_wp2_with fail
    go_ret
    exact ⟨rfl, HK2.out⟩
  · have htt : (xt != gt) = false := by unfold bne; rw [ht]; rfl
    have HH := Lib.hid hh
    clear ht hh
    go_enter Tryz.func109, Tryz.ntmps109
    go_wp2_with fail
    refine (off_made _ _ c0).mono ?_
    rintro e w1 ⟨rfl, rfl⟩
    go_wp2_with fail
    refine (at_GLOB_in a g c1 hn ha).mono ?_
    rintro e w1 ⟨rfl, rfl⟩
    clear c0 c1
    go_wp2_with fail
    generalize w.alloc (.cells #[.int .u8 xt, .int .u64 xl, .int .u64 xh] 65) = w1 at *
    generalize hbx : w.heap.size = bx at *
    have hS : w1.drew.cell? ⟨bx, 0, none⟩ = some (.int .u8 xt) ∧ w1.drew.cell? ⟨bx, 1, none⟩ = some (.int .u64 xl) ∧ w1.drew.cell? ⟨bx, 2, none⟩ = some (.int .u64 xh) ∧ w1.drew.cell? ⟨g, a * 5, none⟩ = some (.int .u8 gt) := ⟨HX.out.cell 0, HX.out.cell 1, HX.out.cell 2, HG.out⟩
    refine wp_region_R (fun w' => w'.cell? ⟨bx, 0, none⟩ = some (.int .u8 xt) ∧ w'.cell? ⟨bx, 1, none⟩ = some (.int .u64 xl) ∧ w'.cell? ⟨bx, 2, none⟩ = some (.int .u64 xh) ∧ w'.cell? ⟨g, a * 5, none⟩ = some (.int .u8 gt)) [] (by kernel_rfl) ?_
    have hdd := (Kept.refl S0 w1).drew
    have HX2 := Lib.hid HX.out.drew
    have HO2 := Lib.hid (HO.out.kept hdd (fun _ _ x => x))
    have HB2 := Lib.hid HB.out.drew
    have HK2 := Lib.hid HK.out.drew
    clear hdd HX HO HB HK HG
    generalize w1.drew = w2 at *
    (first | (refine tkR 0 (v := ?_) rfl hS ⟨by rfl, ?_⟩ ?_; rotate_left; intro w h; (try dsimp only at h); first | (go_simp; done) | (go_simp; with_reducible rfl)) | refine skR 0 rfl (fun _ => hS) (by rfl) ?_); simp only [zq1, zq2, Act.put, zq4, zq5, zq6]
    (first | (refine tkR 1 (v := ?_) rfl hS ⟨by rfl, ?_⟩ ?_; rotate_left; intro w h; (try dsimp only at h); first | (go_simp; done) | (go_simp; with_reducible rfl)) | refine skR 1 rfl (fun _ => hS) (by rfl) ?_); simp only [zq1, zq2, zq3, Act.put, zq4, zq5, zq6]
    (first | (refine tkR 2 (v := ?_) rfl hS ⟨by rfl, ?_⟩ ?_; rotate_left; intro w h; (try dsimp only at h); first | (go_simp; done) | (go_simp; with_reducible rfl)) | refine skR 2 rfl (fun _ => hS) (by rfl) ?_); simp only [zq1, zq2, zq3, Act.put, zq4, zq5, zq6]
    (first | (refine tkR 3 (v := ?_) rfl hS ⟨by rfl, ?_⟩ ?_; rotate_left; intro w h; (try dsimp only at h); first | (go_simp; done) | (go_simp; with_reducible rfl)) | refine skR 3 rfl (fun _ => hS) (by rfl) ?_); simp only [zq1, zq2, zq3, Act.put, zq4, zq5, zq6]
    (first | (refine tkR 4 (v := ?_) rfl hS ⟨by rfl, ?_⟩ ?_; rotate_left; intro w h; (try dsimp only at h); first | (go_simp; done) | (go_simp; with_reducible rfl)) | refine skR 4 rfl (fun _ => hS) (by rfl) ?_); simp only [zq1, zq2, zq3, Act.put, zq4, zq5, zq6]
    (first | (refine tkR 5 (v := ?_) rfl hS ⟨by rfl, ?_⟩ ?_; rotate_left; intro w h; (try dsimp only at h); first | (go_simp; done) | (go_simp; with_reducible rfl)) | refine skR 5 rfl (fun _ => hS) (by rfl) ?_); simp only [zq1, zq2, zq3, Act.put, zq4, zq5, zq6]
    (first | (refine tkR 6 (v := ?_) rfl hS ⟨by rfl, ?_⟩ ?_; rotate_left; intro w h; (try dsimp only at h); first | (go_simp; done) | (go_simp; with_reducible rfl)) | refine skR 6 rfl (fun _ => hS) (by rfl) ?_); simp only [zq1, zq2, zq3, Act.put, zq4, zq5, zq6]
    (first | (refine tkR 7 (v := ?_) rfl hS ⟨by rfl, ?_⟩ ?_; rotate_left; intro w h; (try dsimp only at h); first | (go_simp; done) | (go_simp; with_reducible rfl)) | refine skR 7 rfl (fun _ => hS) (by rfl) ?_); simp only [zq1, zq2, zq3, Act.put, zq4, zq5, zq6]
    (first | (refine tkR 8 (v := ?_) rfl hS ⟨by rfl, ?_⟩ ?_; rotate_left; intro w h; (try dsimp only at h); first | (go_simp; done) | (go_simp; with_reducible rfl)) | refine skR 8 rfl (fun _ => hS) (by rfl) ?_); simp only [zq1, zq2, zq3, Act.put, zq4, zq5, zq6]
    (first | (refine tkR 9 (v := ?_) rfl hS ⟨by rfl, ?_⟩ ?_; rotate_left; intro w h; (try dsimp only at h); first | (go_simp; done) | (go_simp; with_reducible rfl)) | refine skR 9 rfl (fun _ => hS) (by rfl) ?_); simp only [zq1, zq2, zq3, Act.put, zq4, zq5, zq6]
    refine wpAnyR_one 10 rfl (by kernel_rfl) (fun K hK => ?_)
    go_simp
    go_at_call 81
    refine (HHAS.out _).mono ?_
    rintro e w3 ⟨rfl, hk3⟩
    rw [HH.out]
    have hS3 : w3.cell? ⟨bx, 0, none⟩ = some (.int .u8 xt) ∧ w3.cell? ⟨bx, 1, none⟩ = some (.int .u64 xl) ∧ w3.cell? ⟨bx, 2, none⟩ = some (.int .u64 xh) ∧ w3.cell? ⟨g, a * 5, none⟩ = some (.int .u8 gt) := ⟨keep0 hk3 hS.1, keep0 hk3 hS.2.1, keep0 hk3 hS.2.2.1, keep0 hk3 hS.2.2.2⟩
    refine hK.out _ _ (fun _ => hS3) ?_
    clear hK K
    (first | (refine tkR 11 (v := ?_) rfl hS3 ⟨by rfl, ?_⟩ ?_; rotate_left; intro w h; (try dsimp only at h); first | (go_simp; done) | (go_simp; with_reducible rfl)) | refine skR 11 rfl (fun _ => hS3) (by rfl) ?_); simp only [zq1, zq2, zq3, Act.put, zq4, zq5, zq6]
    (first | (refine tkR 12 (v := ?_) rfl hS3 ⟨by rfl, ?_⟩ ?_; rotate_left; intro w h; (try dsimp only at h); first | (go_simp; done) | (go_simp; with_reducible rfl)) | refine skR 12 rfl (fun _ => hS3) (by rfl) ?_); simp only [zq1, zq2, zq3, Act.put, zq4, zq5, zq6]
    (first | (refine tkR 13 (v := ?_) rfl hS3 ⟨by rfl, ?_⟩ ?_; rotate_left; intro w h; (try dsimp only at h); first | (go_simp; done) | (go_simp; with_reducible rfl)) | refine skR 13 rfl (fun _ => hS3) (by rfl) ?_); simp only [zq1, zq2, zq3, Act.put, zq4, zq5, zq6]
    refine wpAnyR_done (by kernel_rfl) ?_ _
    have HK3 := Lib.hid (HK2.out.then0 hk3)
    clear hk3 hS hS3
    go_wp2_with fail
    go_ret
    exact ⟨rfl, HK3.out⟩
/-- A row of globals, one's value set. -/
def setG (F : Nat → Value) (a : Nat) (x : V3) : Nat → Value := fun i => if i = a * 5 + 2 + 2 then .int .u64 x.hi else if i = a * 5 + 2 + 1 then .int .u64 x.lo else if i = a * 5 + 2 then .int .u8 x.t else F i
set_option maxRecDepth 100000 in
set_option maxHeartbeats 3200000 in
theorem setglob_ok (a : Nat) (gt : Int) (x : V3) (hx : 0 ≤ x.lo ∧ x.lo ≤ 18446744073709551615) (hb : Blk w sb 132 (stCells fl tl ml gl el dl il)) (hown : Own w B 149 5 AnyV gl n F) (hn : n ≤ 65536) (ha : a < n) (f0 : F (a * 5) = .int .u8 gt) (hE : globB gt x = true) :
    Calls Tryz.prog 109 #[.pointer (some ⟨sb, 0, none⟩), .int .i64 (a : Int), .agg #[.int .u8 x.t, .int .u64 x.lo, .int .u64 x.hi]] w fun e w' => e = .returned (.int .i64 0) ∧ Blk w' sb 132 (stCells fl tl ml gl el dl il) ∧ Own w' B 149 5 AnyV gl n (setG F a x) ∧ Kept (ST sb gl) w w' := by
  obtain ⟨xt, xl, xh⟩ := x
  dsimp only at hx
  obtain ⟨g, fc, hfl, _, _⟩ := hown.is_some (by omega)
  subst hfl
  have hka : Kept S0 w (w.alloc (.cells #[.int .u8 xt, .int .u64 xl, .int .u64 xh] 65)) := (Kept.refl S0 w).alloc _
  have hb1 := hka.blk hb (fun x => x)
  have ho1 := hown.kept hka (fun _ _ x => x)
  have c0 : (w.alloc (.cells #[.int .u8 xt, .int .u64 xl, .int .u64 xh] 65)).cell? ⟨sb, 0, none⟩ = some (.bool true) := hb1.cell 0
  have c1 : (w.alloc (.cells #[.int .u8 xt, .int .u64 xl, .int .u64 xh] 65)).cell? ⟨sb, 4, none⟩ = some (.slice (some ⟨g, 0, none⟩) n fc) := hb1.cell 4
  have HX := Lib.hid (Blk.new w 65 #[.int .u8 xt, .int .u64 xl, .int .u64 xh])
  have HG := Lib.hid (ho1.rowcell (j := a * 5) (by omega) |>.trans (congrArg some f0))
  have HO := Lib.hid ho1
  have HB := Lib.hid hb1
  have HK := Lib.hid hka
  have HGL := Lib.hid (show g < w.heap.size from (hown.lt g rfl).2)
  have HHAS := Lib.hid (fun w => has_any xt xl xh w hx.1 hx.2)
  clear hb hown hb1 ho1 hka f0
  have hcase : (xt == gt) = true ∧ hasB xt xl xh = true := by unfold globB at hE; simpa using hE
  clear hE
  obtain ⟨ht, hh⟩ := hcase
  have htt : (xt != gt) = false := by unfold bne; rw [ht]; rfl
  have HH := Lib.hid hh
  clear ht hh
  go_enter Tryz.func109, Tryz.ntmps109
  go_wp2_with fail
  refine (off_made _ _ c0).mono ?_
  rintro e w1 ⟨rfl, rfl⟩
  go_wp2_with fail
  refine (at_GLOB_in a g c1 hn ha).mono ?_
  rintro e w1 ⟨rfl, rfl⟩
  clear c0 c1
  go_wp2_with fail
  generalize w.alloc (.cells #[.int .u8 xt, .int .u64 xl, .int .u64 xh] 65) = w1 at *
  generalize hbx : w.heap.size = bx at *
  have hS : w1.drew.cell? ⟨bx, 0, none⟩ = some (.int .u8 xt) ∧ w1.drew.cell? ⟨bx, 1, none⟩ = some (.int .u64 xl) ∧ w1.drew.cell? ⟨bx, 2, none⟩ = some (.int .u64 xh) ∧ w1.drew.cell? ⟨g, a * 5, none⟩ = some (.int .u8 gt) := ⟨HX.out.cell 0, HX.out.cell 1, HX.out.cell 2, HG.out⟩
  refine wp_region_R (fun w' => w'.cell? ⟨bx, 0, none⟩ = some (.int .u8 xt) ∧ w'.cell? ⟨bx, 1, none⟩ = some (.int .u64 xl) ∧ w'.cell? ⟨bx, 2, none⟩ = some (.int .u64 xh) ∧ w'.cell? ⟨g, a * 5, none⟩ = some (.int .u8 gt)) [] (by kernel_rfl) ?_
  have hdd := (Kept.refl S0 w1).drew
  have HX2 := Lib.hid HX.out.drew
  have HO2 := Lib.hid (HO.out.kept hdd (fun _ _ x => x))
  have HB2 := Lib.hid HB.out.drew
  have HK2 := Lib.hid HK.out.drew
  clear hdd HX HO HB HK HG
  generalize w1.drew = w2 at *
  (first | (refine tkR 0 (v := ?_) rfl hS ⟨by rfl, ?_⟩ ?_; rotate_left; intro w h; (try dsimp only at h); first | (go_simp; done) | (go_simp; with_reducible rfl)) | refine skR 0 rfl (fun _ => hS) (by rfl) ?_); simp only [zq1, zq2, Act.put, zq4, zq5, zq6]
  (first | (refine tkR 1 (v := ?_) rfl hS ⟨by rfl, ?_⟩ ?_; rotate_left; intro w h; (try dsimp only at h); first | (go_simp; done) | (go_simp; with_reducible rfl)) | refine skR 1 rfl (fun _ => hS) (by rfl) ?_); simp only [zq1, zq2, zq3, Act.put, zq4, zq5, zq6]
  (first | (refine tkR 2 (v := ?_) rfl hS ⟨by rfl, ?_⟩ ?_; rotate_left; intro w h; (try dsimp only at h); first | (go_simp; done) | (go_simp; with_reducible rfl)) | refine skR 2 rfl (fun _ => hS) (by rfl) ?_); simp only [zq1, zq2, zq3, Act.put, zq4, zq5, zq6]
  (first | (refine tkR 3 (v := ?_) rfl hS ⟨by rfl, ?_⟩ ?_; rotate_left; intro w h; (try dsimp only at h); first | (go_simp; done) | (go_simp; with_reducible rfl)) | refine skR 3 rfl (fun _ => hS) (by rfl) ?_); simp only [zq1, zq2, zq3, Act.put, zq4, zq5, zq6]
  (first | (refine tkR 4 (v := ?_) rfl hS ⟨by rfl, ?_⟩ ?_; rotate_left; intro w h; (try dsimp only at h); first | (go_simp; done) | (go_simp; with_reducible rfl)) | refine skR 4 rfl (fun _ => hS) (by rfl) ?_); simp only [zq1, zq2, zq3, Act.put, zq4, zq5, zq6]
  (first | (refine tkR 5 (v := ?_) rfl hS ⟨by rfl, ?_⟩ ?_; rotate_left; intro w h; (try dsimp only at h); first | (go_simp; done) | (go_simp; with_reducible rfl)) | refine skR 5 rfl (fun _ => hS) (by rfl) ?_); simp only [zq1, zq2, zq3, Act.put, zq4, zq5, zq6]
  (first | (refine tkR 6 (v := ?_) rfl hS ⟨by rfl, ?_⟩ ?_; rotate_left; intro w h; (try dsimp only at h); first | (go_simp; done) | (go_simp; with_reducible rfl)) | refine skR 6 rfl (fun _ => hS) (by rfl) ?_); simp only [zq1, zq2, zq3, Act.put, zq4, zq5, zq6]
  (first | (refine tkR 7 (v := ?_) rfl hS ⟨by rfl, ?_⟩ ?_; rotate_left; intro w h; (try dsimp only at h); first | (go_simp; done) | (go_simp; with_reducible rfl)) | refine skR 7 rfl (fun _ => hS) (by rfl) ?_); simp only [zq1, zq2, zq3, Act.put, zq4, zq5, zq6]
  (first | (refine tkR 8 (v := ?_) rfl hS ⟨by rfl, ?_⟩ ?_; rotate_left; intro w h; (try dsimp only at h); first | (go_simp; done) | (go_simp; with_reducible rfl)) | refine skR 8 rfl (fun _ => hS) (by rfl) ?_); simp only [zq1, zq2, zq3, Act.put, zq4, zq5, zq6]
  (first | (refine tkR 9 (v := ?_) rfl hS ⟨by rfl, ?_⟩ ?_; rotate_left; intro w h; (try dsimp only at h); first | (go_simp; done) | (go_simp; with_reducible rfl)) | refine skR 9 rfl (fun _ => hS) (by rfl) ?_); simp only [zq1, zq2, zq3, Act.put, zq4, zq5, zq6]
  refine wpAnyR_one 10 rfl (by kernel_rfl) (fun K hK => ?_)
  go_simp
  go_at_call 81
  refine (HHAS.out _).mono ?_
  rintro e w3 ⟨rfl, hk3⟩
  rw [HH.out]
  have hS3 : w3.cell? ⟨bx, 0, none⟩ = some (.int .u8 xt) ∧ w3.cell? ⟨bx, 1, none⟩ = some (.int .u64 xl) ∧ w3.cell? ⟨bx, 2, none⟩ = some (.int .u64 xh) ∧ w3.cell? ⟨g, a * 5, none⟩ = some (.int .u8 gt) := ⟨keep0 hk3 hS.1, keep0 hk3 hS.2.1, keep0 hk3 hS.2.2.1, keep0 hk3 hS.2.2.2⟩
  refine hK.out _ _ (fun _ => hS3) ?_
  clear hK K
  (first | (refine tkR 11 (v := ?_) rfl hS3 ⟨by rfl, ?_⟩ ?_; rotate_left; intro w h; (try dsimp only at h); first | (go_simp; done) | (go_simp; with_reducible rfl)) | refine skR 11 rfl (fun _ => hS3) (by rfl) ?_); simp only [zq1, zq2, zq3, Act.put, zq4, zq5, zq6]
  (first | (refine tkR 12 (v := ?_) rfl hS3 ⟨by rfl, ?_⟩ ?_; rotate_left; intro w h; (try dsimp only at h); first | (go_simp; done) | (go_simp; with_reducible rfl)) | refine skR 12 rfl (fun _ => hS3) (by rfl) ?_); simp only [zq1, zq2, zq3, Act.put, zq4, zq5, zq6]
  (first | (refine tkR 13 (v := ?_) rfl hS3 ⟨by rfl, ?_⟩ ?_; rotate_left; intro w h; (try dsimp only at h); first | (go_simp; done) | (go_simp; with_reducible rfl)) | refine skR 13 rfl (fun _ => hS3) (by rfl) ?_); simp only [zq1, zq2, zq3, Act.put, zq4, zq5, zq6]
  refine wpAnyR_done (by kernel_rfl) ?_ _
  have HK3 := Lib.hid (HK2.out.then0 hk3)
  have ho3 := HO2.out.kept hk3 (fun _ _ x => x)
  have hb3 := hk3.blk HB2.out (fun x => x)
  have hx3 := hk3.blk HX2.out (fun x => x)
  clear hS hS3 hk3 HK2 HO2 HB2 HX2
  have q0 := hx3.cell 0
  have q1 := hx3.cell 1
  have q2 := hx3.cell 2
  have r0 := ho3.rowcell (j := a * 5 + 2) (by omega)
  have r1 : w3.cell? ⟨g, a * 5 + 2 + 1, none⟩ = some (F (a * 5 + 2 + 1)) := ho3.rowcell (by omega)
  have r2 : w3.cell? ⟨g, a * 5 + 2 + 2, none⟩ = some (F (a * 5 + 2 + 2)) := ho3.rowcell (by omega)
  have s0 := ho3.frozen (a * 5 + 2)
  have s1 : w3.frozen? ⟨g, a * 5 + 2 + 1, none⟩ = false := ho3.frozen _
  have s2 : w3.frozen? ⟨g, a * 5 + 2 + 2, none⟩ = false := ho3.frozen _
  have HBF := Lib.hid (show Blk (((w3.setCell ⟨g, a * 5 + 2, none⟩ (.int .u8 xt)).setCell ⟨g, a * 5 + 2 + 1, none⟩ (.int .u64 xl)).setCell ⟨g, a * 5 + 2 + 2, none⟩ (.int .u64 xh)) sb 132 (stCells fl tl ml (.slice (some ⟨g, 0, none⟩) n fc) el dl il) from by
    have hne : sb ≠ g := fun e => ho3.ne_blk hb3 (by decide) (by rw [e]; rfl)
    exact ((hb3.far (p := ⟨g, a * 5 + 2, none⟩) hne _).far (p := ⟨g, a * 5 + 2 + 1, none⟩) hne _).far (p := ⟨g, a * 5 + 2 + 2, none⟩) hne _)
  have HOF := Lib.hid (((ho3.set1 (j := a * 5 + 2) (.int .u8 xt)).set1 (j := a * 5 + 2 + 1) (.int .u64 xl)).set1 (j := a * 5 + 2 + 2) (.int .u64 xh))
  have HKF := Lib.hid ((((HK3.out.of0 (ST sb (.slice (some ⟨g, 0, none⟩) n fc))).setCell (p := ⟨g, a * 5 + 2, none⟩) (.inl (.inr rfl)) (.int .u8 xt)).setCell (p := ⟨g, a * 5 + 2 + 1, none⟩) (.inl (.inr rfl)) (.int .u64 xl)).setCell (p := ⟨g, a * 5 + 2 + 2, none⟩) (.inl (.inr rfl)) (.int .u64 xh))
  clear ho3 hb3 hx3
  go_wp2_with fail
  go_ret
  exact ⟨rfl, HBF.out, HOF.out, HKF.out⟩
set_option maxHeartbeats 1600000 in
theorem setglob_none (a : Int) (x : V3) (hb : Blk w sb 132 (stCells fl tl ml gl el dl il)) (hown : Own w B 149 5 AnyV gl n F) (hn : n ≤ 65536) (ha : a < 0 ∨ (n : Int) ≤ a) :
    Calls Tryz.prog 109 #[.pointer (some ⟨sb, 0, none⟩), .int .i64 a, .agg #[.int .u8 x.t, .int .u64 x.lo, .int .u64 x.hi]] w fun e w' => e = .returned (.int .i64 11) ∧ Kept S0 w w' := by
  obtain ⟨lA, lc, hlv, _, _, _⟩ := hown.out
  subst hlv
  have hka : Kept S0 w (w.alloc (.cells #[.int .u8 x.t, .int .u64 x.lo, .int .u64 x.hi] 65)) := (Kept.refl S0 w).alloc _
  have hb1 := hka.blk hb (fun x => x)
  have c0 : (w.alloc (.cells #[.int .u8 x.t, .int .u64 x.lo, .int .u64 x.hi] 65)).cell? ⟨sb, 0, none⟩ = some (.bool true) := hb1.cell 0
  have c1 : (w.alloc (.cells #[.int .u8 x.t, .int .u64 x.lo, .int .u64 x.hi] 65)).cell? ⟨sb, 4, none⟩ = some (.slice lA n lc) := hb1.cell 4
  have HK := Lib.hid hka
  clear hb hown hb1 hka
  go_enter Tryz.func109, Tryz.ntmps109
  go_wp2_with fail
  refine (off_made _ _ c0).mono ?_
  rintro e w1 ⟨rfl, rfl⟩
  go_wp2_with fail
  refine (at_GLOB_out a lA c1 hn ha).mono ?_
  rintro e w1 ⟨rfl, rfl⟩
  clear ha
  go_wp2_with fail
  go_ret
  exact ⟨rfl, HK.out⟩
set_option maxHeartbeats 1600000 in
theorem dropelem_in (a : Nat) (hb : Blk w sb 132 (stCells fl tl ml gl el dl il)) (hown : Own w B 155 2 AnyV el n F) (hn : n ≤ 65536) (ha : a < n) :
    Calls Tryz.prog 28 #[.pointer (some ⟨sb, 0, none⟩), .int .u8 1, .int .i64 (a : Int)] w fun e w' => e = .returned (.int .i64 0) ∧ Blk w' sb 132 (stCells fl tl ml gl el dl il) ∧ Own w' B 155 2 AnyV el n (fun i => if i = a * 2 + 1 then .slice none 0 0 else F i) ∧ Kept (ST sb el) w w' := by
  obtain ⟨g, fc, hfl, _, _⟩ := hown.is_some (by omega)
  subst hfl
  have c0 : w.cell? ⟨sb, 0, none⟩ = some (.bool true) := hb.cell 0
  have c1 : w.cell? ⟨sb, 5, none⟩ = some (.slice (some ⟨g, 0, none⟩) n fc) := hb.cell 5
  have r0 := hown.rowcell (j := a * 2 + 1) (by omega)
  have s0 := hown.frozen (a * 2 + 1)
  have HBF := Lib.hid (show Blk (w.setCell ⟨g, a * 2 + 1, none⟩ (.slice none 0 0)) sb 132 _ from hb.far (p := ⟨g, a * 2 + 1, none⟩) (fun e => hown.ne_blk hb (by decide) (by have e' : sb = g := e; rw [e']; rfl)) _)
  have HOF := Lib.hid (hown.set1 (j := a * 2 + 1) (.slice none 0 0))
  have HKF := Lib.hid ((Kept.refl (ST sb (.slice (some ⟨g, 0, none⟩) n fc)) w).setCell (p := ⟨g, a * 2 + 1, none⟩) (.inl (.inr rfl)) (.slice none 0 0))
  clear hb hown
  go_enter Tryz.func28, Tryz.ntmps28
  go_wp2_with fail
  refine (off_made _ _ c0).mono ?_
  rintro e w1 ⟨rfl, rfl⟩
  go_wp2_with fail
  refine (at_ELEM_in a g c1 hn ha).mono ?_
  rintro e w1 ⟨rfl, rfl⟩
  go_wp2_with fail
  go_ret
  exact ⟨rfl, HBF.out, HOF.out, HKF.out⟩
set_option maxHeartbeats 1600000 in
theorem dropelem_out (a : Int) (hb : Blk w sb 132 (stCells fl tl ml gl el dl il)) (hown : Own w B 155 2 AnyV el n F) (hn : n ≤ 65536) (ha : a < 0 ∨ (n : Int) ≤ a) :
    Calls Tryz.prog 28 #[.pointer (some ⟨sb, 0, none⟩), .int .u8 1, .int .i64 a] w fun e w' => e = .returned (.int .i64 11) ∧ w = w' := by
  obtain ⟨lA, lc, hlv, _, _, _⟩ := hown.out
  subst hlv
  have c0 : w.cell? ⟨sb, 0, none⟩ = some (.bool true) := hb.cell 0
  have c1 : w.cell? ⟨sb, 5, none⟩ = some (.slice lA n lc) := hb.cell 5
  clear hb hown
  go_enter Tryz.func28, Tryz.ntmps28
  go_wp2_with fail
  refine (off_made _ _ c0).mono ?_
  rintro e w1 ⟨rfl, rfl⟩
  go_wp2_with fail
  refine (at_ELEM_out a lA c1 hn ha).mono ?_
  rintro e w1 ⟨rfl, rfl⟩
  clear ha
  go_wp2_with fail
  go_ret
  exact ⟨rfl, rfl⟩
set_option maxHeartbeats 1600000 in
theorem dropdata_in (a : Nat) (hb : Blk w sb 132 (stCells fl tl ml gl el dl il)) (hown : Own w B 71 1 AnyV dl n F) (hn : n ≤ 65536) (ha : a < n) :
    Calls Tryz.prog 28 #[.pointer (some ⟨sb, 0, none⟩), .int .u8 2, .int .i64 (a : Int)] w fun e w' => e = .returned (.int .i64 0) ∧ Blk w' sb 132 (stCells fl tl ml gl el dl il) ∧ Own w' B 71 1 AnyV dl n (fun i => if i = a then .slice none 0 0 else F i) ∧ Kept (ST sb dl) w w' := by
  obtain ⟨g, fc, hfl, _, _⟩ := hown.is_some (by omega)
  subst hfl
  have c0 : w.cell? ⟨sb, 0, none⟩ = some (.bool true) := hb.cell 0
  have c1 : w.cell? ⟨sb, 6, none⟩ = some (.slice (some ⟨g, 0, none⟩) n fc) := hb.cell 6
  have r0 := hown.rowcell (j := a) (by omega)
  have s0 := hown.frozen (a)
  have HBF := Lib.hid (show Blk (w.setCell ⟨g, a, none⟩ (.slice none 0 0)) sb 132 _ from hb.far (p := ⟨g, a, none⟩) (fun e => hown.ne_blk hb (by decide) (by have e' : sb = g := e; rw [e']; rfl)) _)
  have HOF := Lib.hid (hown.set1 (j := a) (.slice none 0 0))
  have HKF := Lib.hid ((Kept.refl (ST sb (.slice (some ⟨g, 0, none⟩) n fc)) w).setCell (p := ⟨g, a, none⟩) (.inl (.inr rfl)) (.slice none 0 0))
  clear hb hown
  go_enter Tryz.func28, Tryz.ntmps28
  go_wp2_with fail
  refine (off_made _ _ c0).mono ?_
  rintro e w1 ⟨rfl, rfl⟩
  go_wp2_with fail
  refine (at_DATA_in a g c1 hn ha).mono ?_
  rintro e w1 ⟨rfl, rfl⟩
  go_wp2_with fail
  go_ret
  exact ⟨rfl, HBF.out, HOF.out, HKF.out⟩
set_option maxHeartbeats 1600000 in
theorem dropdata_out (a : Int) (hb : Blk w sb 132 (stCells fl tl ml gl el dl il)) (hown : Own w B 71 1 AnyV dl n F) (hn : n ≤ 65536) (ha : a < 0 ∨ (n : Int) ≤ a) :
    Calls Tryz.prog 28 #[.pointer (some ⟨sb, 0, none⟩), .int .u8 2, .int .i64 a] w fun e w' => e = .returned (.int .i64 11) ∧ w = w' := by
  obtain ⟨lA, lc, hlv, _, _, _⟩ := hown.out
  subst hlv
  have c0 : w.cell? ⟨sb, 0, none⟩ = some (.bool true) := hb.cell 0
  have c1 : w.cell? ⟨sb, 6, none⟩ = some (.slice lA n lc) := hb.cell 6
  clear hb hown
  go_enter Tryz.func28, Tryz.ntmps28
  go_wp2_with fail
  refine (off_made _ _ c0).mono ?_
  rintro e w1 ⟨rfl, rfl⟩
  go_wp2_with fail
  refine (at_DATA_out a lA c1 hn ha).mono ?_
  rintro e w1 ⟨rfl, rfl⟩
  clear ha
  go_wp2_with fail
  go_ret
  exact ⟨rfl, rfl⟩
end
end Go.Proofs.YtlnkdnmeikpckaaGreat
namespace Go.Proofs.YtlnkdnmeikpckaaGreat
open Go.RowKit
set_option maxRecDepth 100000
section
variable {w : World} {rb B n : Nat} {fl tl ml gl el' dl il : Value} {F : Nat → Value}
set_option maxHeartbeats 1600000 in
theorem rsetg_none (a : Int) (x : V3) (hb : Blk w rb 89 (rCells fl tl ml gl el' dl il)) (hown : Own w B 109 5 AnyV gl n F) (_hn : n ≤ 65536) (ha : a < 0 ∨ (n : Int) ≤ a) :
    Calls Tryz.prog 110 #[.pointer (some ⟨rb, 0, none⟩), .int .i64 a, .agg #[.int .u8 x.t, .int .u64 x.lo, .int .u64 x.hi]] w fun e w' => e = .returned (.int .i64 11) ∧ Kept S0 w w' := by
  obtain ⟨lA, lc, hlv, _, _, _⟩ := hown.out
  subst hlv
  have hka : Kept S0 w (w.alloc (.cells #[.int .u8 x.t, .int .u64 x.lo, .int .u64 x.hi] 65)) := (Kept.refl S0 w).alloc _
  have hb1 := hka.blk hb (fun x => x)
  have c1 : (w.alloc (.cells #[.int .u8 x.t, .int .u64 x.lo, .int .u64 x.hi] 65)).cell? ⟨rb, 3, none⟩ = some (.slice lA n lc) := hb1.cell 3
  have HK := Lib.hid hka
  have HT := Lib.hid (show inA a (n : Int) = false by unfold inA; exact decide_eq_false (by omega))
  clear hb hown hb1 hka ha
  go_enter Tryz.func110, Tryz.ntmps110
  go_wp2_with fail
  refine (there_any a n _).mono ?_
  rintro e w1 ⟨rfl, rfl⟩
  rw [HT.out]
  go_wp2_with fail
  go_ret
  exact ⟨rfl, HK.out⟩
set_option maxRecDepth 100000 in
set_option maxHeartbeats 3200000 in
theorem rsetg_err (a : Nat) (gt : Int) (x : V3) (hx : 0 ≤ x.lo ∧ x.lo ≤ 18446744073709551615) (hb : Blk w rb 89 (rCells fl tl ml gl el' dl il)) (hown : Own w B 109 5 AnyV gl n F) (hn : n ≤ 65536) (ha : a < n) (f0 : F (a * 5) = .int .u8 gt) (hE : globB gt x = false) :
    Calls Tryz.prog 110 #[.pointer (some ⟨rb, 0, none⟩), .int .i64 (a : Int), .agg #[.int .u8 x.t, .int .u64 x.lo, .int .u64 x.hi]] w fun e w' => e = .returned (.int .i64 2) ∧ Kept S0 w w' := by
  obtain ⟨xt, xl, xh⟩ := x
  dsimp only at hx
  obtain ⟨g, fc, hfl, _, _⟩ := hown.is_some (by omega)
  subst hfl
  have hka : Kept S0 w (w.alloc (.cells #[.int .u8 xt, .int .u64 xl, .int .u64 xh] 65)) := (Kept.refl S0 w).alloc _
  have hb1 := hka.blk hb (fun x => x)
  have ho1 := hown.kept hka (fun _ _ x => x)
  have c1 : (w.alloc (.cells #[.int .u8 xt, .int .u64 xl, .int .u64 xh] 65)).cell? ⟨rb, 3, none⟩ = some (.slice (some ⟨g, 0, none⟩) n fc) := hb1.cell 3
  have HX := Lib.hid (Blk.new w 65 #[.int .u8 xt, .int .u64 xl, .int .u64 xh])
  have HG := Lib.hid (ho1.rowcell (j := a * 5) (by omega) |>.trans (congrArg some f0))
  have HO := Lib.hid ho1
  have HB := Lib.hid hb1
  have HK := Lib.hid hka
  have HHAS := Lib.hid (fun w => rhas_any xt xl xh w hx.1 hx.2)
  have HT := Lib.hid (show inA (a : Int) (n : Int) = true by unfold inA; exact decide_eq_true (by omega))
  have i0 : (0 : Int) ≤ (a : Int) := by omega
  have i1 : (a : Int) < (n : Int) := by omega
  have HF0 := Lib.hid f0
  clear hb hown hb1 ho1 hka f0
  have hcase : (xt == gt) = false ∨ (xt == gt) = true ∧ hasB xt xl xh = false := by
    unfold globB at hE; dsimp only at hE; cases h : (xt == gt) with
    | false => exact .inl rfl
    | true => rw [h] at hE; exact .inr ⟨rfl, by simpa using hE⟩
  clear hE
  rcases hcase with ht | ⟨ht, hh⟩
  · have htt : (xt != gt) = true := by unfold bne; rw [ht]; rfl
    clear ht
    go_enter Tryz.func110, Tryz.ntmps110
    go_wp2_with fail
    refine (there_any a n _).mono ?_
    rintro e w1 ⟨rfl, rfl⟩
    rw [HT.out]
    go_wp2_with fail
    generalize w.alloc (.cells #[.int .u8 xt, .int .u64 xl, .int .u64 xh] 65) = w1 at *
    generalize hbx : w.heap.size = bx at *
    have hS : w1.drew.cell? ⟨bx, 0, none⟩ = some (.int .u8 xt) ∧ w1.drew.cell? ⟨bx, 1, none⟩ = some (.int .u64 xl) ∧ w1.drew.cell? ⟨bx, 2, none⟩ = some (.int .u64 xh) ∧ w1.drew.cell? ⟨rb, 3, none⟩ = some (.slice (some ⟨g, 0, none⟩) n fc) ∧ w1.drew.cell? ⟨g, a * 5, none⟩ = some (.int .u8 gt) := ⟨HX.out.cell 0, HX.out.cell 1, HX.out.cell 2, c1, HG.out⟩
    refine wp_region_R (fun w' => w'.cell? ⟨bx, 0, none⟩ = some (.int .u8 xt) ∧ w'.cell? ⟨bx, 1, none⟩ = some (.int .u64 xl) ∧ w'.cell? ⟨bx, 2, none⟩ = some (.int .u64 xh) ∧ w'.cell? ⟨rb, 3, none⟩ = some (.slice (some ⟨g, 0, none⟩) n fc) ∧ w'.cell? ⟨g, a * 5, none⟩ = some (.int .u8 gt)) [] (by kernel_rfl) ?_
    have hdd := (Kept.refl S0 w1).drew
    have HX2 := Lib.hid HX.out.drew
    have HO2 := Lib.hid (HO.out.kept hdd (fun _ _ x => x))
    have HB2 := Lib.hid HB.out.drew
    have HK2 := Lib.hid HK.out.drew
    clear hdd HX HO HB HK HG c1
    generalize w1.drew = w2 at *
    (first | (refine tkR 0 (v := ?_) rfl hS ⟨by rfl, ?_⟩ ?_; rotate_left; intro w h; (try dsimp only at h); first | (go_simp; done) | (go_simp; with_reducible rfl)) | refine skR 0 rfl (fun _ => hS) (by rfl) ?_); simp only [zq1, zq2, Act.put, zq4, zq5, zq6]
    (first | (refine tkR 1 (v := ?_) rfl hS ⟨by rfl, ?_⟩ ?_; rotate_left; intro w h; (try dsimp only at h); first | (go_simp; done) | (go_simp; with_reducible rfl)) | refine skR 1 rfl (fun _ => hS) (by rfl) ?_); simp only [zq1, zq2, zq3, Act.put, zq4, zq5, zq6]
    (first | (refine tkR 2 (v := ?_) rfl hS ⟨by rfl, ?_⟩ ?_; rotate_left; intro w h; (try dsimp only at h); first | (go_simp; done) | (go_simp; with_reducible rfl)) | refine skR 2 rfl (fun _ => hS) (by rfl) ?_); simp only [zq1, zq2, zq3, Act.put, zq4, zq5, zq6]
    (first | (refine tkR 3 (v := ?_) rfl hS ⟨by rfl, ?_⟩ ?_; rotate_left; intro w h; (try dsimp only at h); first | (go_simp; done) | (go_simp; with_reducible rfl)) | refine skR 3 rfl (fun _ => hS) (by rfl) ?_); simp only [zq1, zq2, zq3, Act.put, zq4, zq5, zq6]
    (first | (refine tkR 4 (v := ?_) rfl hS ⟨by rfl, ?_⟩ ?_; rotate_left; intro w h; (try dsimp only at h); first | (go_simp; done) | (go_simp; with_reducible rfl)) | refine skR 4 rfl (fun _ => hS) (by rfl) ?_); simp only [zq1, zq2, zq3, Act.put, zq4, zq5, zq6]
    (first | (refine tkR 5 (v := ?_) rfl hS ⟨by rfl, ?_⟩ ?_; rotate_left; intro w h; (try dsimp only at h); first | (go_simp; done) | (go_simp; with_reducible rfl)) | refine skR 5 rfl (fun _ => hS) (by rfl) ?_); simp only [zq1, zq2, zq3, Act.put, zq4, zq5, zq6]
    (first | (refine tkR 6 (v := ?_) rfl hS ⟨by rfl, ?_⟩ ?_; rotate_left; intro w h; (try dsimp only at h); first | (go_simp; done) | (go_simp; with_reducible rfl)) | refine skR 6 rfl (fun _ => hS) (by rfl) ?_); simp only [zq1, zq2, zq3, Act.put, zq4, zq5, zq6]
    (first | (refine tkR 7 (v := ?_) rfl hS ⟨by rfl, ?_⟩ ?_; rotate_left; intro w h; (try dsimp only at h); first | (go_simp; done) | (go_simp; with_reducible rfl)) | refine skR 7 rfl (fun _ => hS) (by rfl) ?_); simp only [zq1, zq2, zq3, Act.put, zq4, zq5, zq6]
    (first | (refine tkR 8 (v := ?_) rfl hS ⟨by rfl, ?_⟩ ?_; rotate_left; intro w h; (try dsimp only at h); first | (go_simp; done) | (go_simp; with_reducible rfl)) | refine skR 8 rfl (fun _ => hS) (by rfl) ?_); simp only [zq1, zq2, zq3, Act.put, zq4, zq5, zq6]
    (first | (refine tkR 9 (v := ?_) rfl hS ⟨by rfl, ?_⟩ ?_; rotate_left; intro w h; (try dsimp only at h); first | (go_simp; done) | (go_simp; with_reducible rfl)) | refine skR 9 rfl (fun _ => hS) (by rfl) ?_); simp only [zq1, zq2, zq3, Act.put, zq4, zq5, zq6]
    (first | (refine tkR 10 (v := ?_) rfl hS ⟨by rfl, ?_⟩ ?_; rotate_left; intro w h; (try dsimp only at h); first | (go_simp; done) | (go_simp; with_reducible rfl)) | refine skR 10 rfl (fun _ => hS) (by rfl) ?_); simp only [zq1, zq2, zq3, Act.put, zq4, zq5, zq6]
    (first | (refine tkR 11 (v := ?_) rfl hS ⟨by rfl, ?_⟩ ?_; rotate_left; intro w h; (try dsimp only at h); first | (go_simp; done) | (go_simp; with_reducible rfl)) | refine skR 11 rfl (fun _ => hS) (by rfl) ?_); simp only [zq1, zq2, zq3, Act.put, zq4, zq5, zq6]
    (first | (refine tkR 12 (v := ?_) rfl hS ⟨by rfl, ?_⟩ ?_; rotate_left; intro w h; (try dsimp only at h); first | (go_simp; done) | (go_simp; with_reducible rfl)) | refine skR 12 rfl (fun _ => hS) (by rfl) ?_); simp only [zq1, zq2, zq3, Act.put, zq4, zq5, zq6]
    (first | (refine tkR 13 (v := ?_) rfl hS ⟨by rfl, ?_⟩ ?_; rotate_left; intro w h; (try dsimp only at h); first | (go_simp; done) | (go_simp; with_reducible rfl)) | refine skR 13 rfl (fun _ => hS) (by rfl) ?_); simp only [zq1, zq2, zq3, Act.put, zq4, zq5, zq6]
    (first | (refine tkR 14 (v := ?_) rfl hS ⟨by rfl, ?_⟩ ?_; rotate_left; intro w h; (try dsimp only at h); first | (go_simp; done) | (go_simp; with_reducible rfl)) | refine skR 14 rfl (fun _ => hS) (by rfl) ?_); simp only [zq1, zq2, zq3, Act.put, zq4, zq5, zq6]
    (first | (refine tkR 15 (v := ?_) rfl hS ⟨by rfl, ?_⟩ ?_; rotate_left; intro w h; (try dsimp only at h); first | (go_simp; done) | (go_simp; with_reducible rfl)) | refine skR 15 rfl (fun _ => hS) (by rfl) ?_); simp only [zq1, zq2, zq3, Act.put, zq4, zq5, zq6]
    (first | (refine tkR 16 (v := ?_) rfl hS ⟨by rfl, ?_⟩ ?_; rotate_left; intro w h; (try dsimp only at h); first | (go_simp; done) | (go_simp; with_reducible rfl)) | refine skR 16 rfl (fun _ => hS) (by rfl) ?_); simp only [zq1, zq2, zq3, Act.put, zq4, zq5, zq6]
    refine wpAnyR_done (by kernel_rfl) ?_ _
    clear hS
    go_wp2_with fail
    go_ret
    exact ⟨rfl, HK2.out⟩
  · have htt : (xt != gt) = false := by unfold bne; rw [ht]; rfl
    have HH := Lib.hid hh
    clear ht hh
    go_enter Tryz.func110, Tryz.ntmps110
    go_wp2_with fail
    refine (there_any a n _).mono ?_
    rintro e w1 ⟨rfl, rfl⟩
    rw [HT.out]
    go_wp2_with fail
    generalize w.alloc (.cells #[.int .u8 xt, .int .u64 xl, .int .u64 xh] 65) = w1 at *
    generalize hbx : w.heap.size = bx at *
    have hS : w1.drew.cell? ⟨bx, 0, none⟩ = some (.int .u8 xt) ∧ w1.drew.cell? ⟨bx, 1, none⟩ = some (.int .u64 xl) ∧ w1.drew.cell? ⟨bx, 2, none⟩ = some (.int .u64 xh) ∧ w1.drew.cell? ⟨rb, 3, none⟩ = some (.slice (some ⟨g, 0, none⟩) n fc) ∧ w1.drew.cell? ⟨g, a * 5, none⟩ = some (.int .u8 gt) := ⟨HX.out.cell 0, HX.out.cell 1, HX.out.cell 2, c1, HG.out⟩
    refine wp_region_R (fun w' => w'.cell? ⟨bx, 0, none⟩ = some (.int .u8 xt) ∧ w'.cell? ⟨bx, 1, none⟩ = some (.int .u64 xl) ∧ w'.cell? ⟨bx, 2, none⟩ = some (.int .u64 xh) ∧ w'.cell? ⟨rb, 3, none⟩ = some (.slice (some ⟨g, 0, none⟩) n fc) ∧ w'.cell? ⟨g, a * 5, none⟩ = some (.int .u8 gt)) [] (by kernel_rfl) ?_
    have hdd := (Kept.refl S0 w1).drew
    have HX2 := Lib.hid HX.out.drew
    have HO2 := Lib.hid (HO.out.kept hdd (fun _ _ x => x))
    have HB2 := Lib.hid HB.out.drew
    have HK2 := Lib.hid HK.out.drew
    clear hdd HX HO HB HK HG c1
    generalize w1.drew = w2 at *
    (first | (refine tkR 0 (v := ?_) rfl hS ⟨by rfl, ?_⟩ ?_; rotate_left; intro w h; (try dsimp only at h); first | (go_simp; done) | (go_simp; with_reducible rfl)) | refine skR 0 rfl (fun _ => hS) (by rfl) ?_); simp only [zq1, zq2, Act.put, zq4, zq5, zq6]
    (first | (refine tkR 1 (v := ?_) rfl hS ⟨by rfl, ?_⟩ ?_; rotate_left; intro w h; (try dsimp only at h); first | (go_simp; done) | (go_simp; with_reducible rfl)) | refine skR 1 rfl (fun _ => hS) (by rfl) ?_); simp only [zq1, zq2, zq3, Act.put, zq4, zq5, zq6]
    (first | (refine tkR 2 (v := ?_) rfl hS ⟨by rfl, ?_⟩ ?_; rotate_left; intro w h; (try dsimp only at h); first | (go_simp; done) | (go_simp; with_reducible rfl)) | refine skR 2 rfl (fun _ => hS) (by rfl) ?_); simp only [zq1, zq2, zq3, Act.put, zq4, zq5, zq6]
    (first | (refine tkR 3 (v := ?_) rfl hS ⟨by rfl, ?_⟩ ?_; rotate_left; intro w h; (try dsimp only at h); first | (go_simp; done) | (go_simp; with_reducible rfl)) | refine skR 3 rfl (fun _ => hS) (by rfl) ?_); simp only [zq1, zq2, zq3, Act.put, zq4, zq5, zq6]
    (first | (refine tkR 4 (v := ?_) rfl hS ⟨by rfl, ?_⟩ ?_; rotate_left; intro w h; (try dsimp only at h); first | (go_simp; done) | (go_simp; with_reducible rfl)) | refine skR 4 rfl (fun _ => hS) (by rfl) ?_); simp only [zq1, zq2, zq3, Act.put, zq4, zq5, zq6]
    (first | (refine tkR 5 (v := ?_) rfl hS ⟨by rfl, ?_⟩ ?_; rotate_left; intro w h; (try dsimp only at h); first | (go_simp; done) | (go_simp; with_reducible rfl)) | refine skR 5 rfl (fun _ => hS) (by rfl) ?_); simp only [zq1, zq2, zq3, Act.put, zq4, zq5, zq6]
    (first | (refine tkR 6 (v := ?_) rfl hS ⟨by rfl, ?_⟩ ?_; rotate_left; intro w h; (try dsimp only at h); first | (go_simp; done) | (go_simp; with_reducible rfl)) | refine skR 6 rfl (fun _ => hS) (by rfl) ?_); simp only [zq1, zq2, zq3, Act.put, zq4, zq5, zq6]
    (first | (refine tkR 7 (v := ?_) rfl hS ⟨by rfl, ?_⟩ ?_; rotate_left; intro w h; (try dsimp only at h); first | (go_simp; done) | (go_simp; with_reducible rfl)) | refine skR 7 rfl (fun _ => hS) (by rfl) ?_); simp only [zq1, zq2, zq3, Act.put, zq4, zq5, zq6]
    (first | (refine tkR 8 (v := ?_) rfl hS ⟨by rfl, ?_⟩ ?_; rotate_left; intro w h; (try dsimp only at h); first | (go_simp; done) | (go_simp; with_reducible rfl)) | refine skR 8 rfl (fun _ => hS) (by rfl) ?_); simp only [zq1, zq2, zq3, Act.put, zq4, zq5, zq6]
    (first | (refine tkR 9 (v := ?_) rfl hS ⟨by rfl, ?_⟩ ?_; rotate_left; intro w h; (try dsimp only at h); first | (go_simp; done) | (go_simp; with_reducible rfl)) | refine skR 9 rfl (fun _ => hS) (by rfl) ?_); simp only [zq1, zq2, zq3, Act.put, zq4, zq5, zq6]
    (first | (refine tkR 10 (v := ?_) rfl hS ⟨by rfl, ?_⟩ ?_; rotate_left; intro w h; (try dsimp only at h); first | (go_simp; done) | (go_simp; with_reducible rfl)) | refine skR 10 rfl (fun _ => hS) (by rfl) ?_); simp only [zq1, zq2, zq3, Act.put, zq4, zq5, zq6]
    (first | (refine tkR 11 (v := ?_) rfl hS ⟨by rfl, ?_⟩ ?_; rotate_left; intro w h; (try dsimp only at h); first | (go_simp; done) | (go_simp; with_reducible rfl)) | refine skR 11 rfl (fun _ => hS) (by rfl) ?_); simp only [zq1, zq2, zq3, Act.put, zq4, zq5, zq6]
    (first | (refine tkR 12 (v := ?_) rfl hS ⟨by rfl, ?_⟩ ?_; rotate_left; intro w h; (try dsimp only at h); first | (go_simp; done) | (go_simp; with_reducible rfl)) | refine skR 12 rfl (fun _ => hS) (by rfl) ?_); simp only [zq1, zq2, zq3, Act.put, zq4, zq5, zq6]
    (first | (refine tkR 13 (v := ?_) rfl hS ⟨by rfl, ?_⟩ ?_; rotate_left; intro w h; (try dsimp only at h); first | (go_simp; done) | (go_simp; with_reducible rfl)) | refine skR 13 rfl (fun _ => hS) (by rfl) ?_); simp only [zq1, zq2, zq3, Act.put, zq4, zq5, zq6]
    refine wpAnyR_one 14 rfl (by kernel_rfl) (fun K hK => ?_)
    go_simp
    go_at_call 84
    refine (HHAS.out _).mono ?_
    rintro e w3 ⟨rfl, hk3⟩
    rw [HH.out]
    have hS3 : w3.cell? ⟨bx, 0, none⟩ = some (.int .u8 xt) ∧ w3.cell? ⟨bx, 1, none⟩ = some (.int .u64 xl) ∧ w3.cell? ⟨bx, 2, none⟩ = some (.int .u64 xh) ∧ w3.cell? ⟨rb, 3, none⟩ = some (.slice (some ⟨g, 0, none⟩) n fc) ∧ w3.cell? ⟨g, a * 5, none⟩ = some (.int .u8 gt) := ⟨keep0 hk3 hS.1, keep0 hk3 hS.2.1, keep0 hk3 hS.2.2.1, keep0 hk3 hS.2.2.2.1, keep0 hk3 hS.2.2.2.2⟩
    refine hK.out _ _ (fun _ => hS3) ?_
    clear hK K
    (first | (refine tkR 15 (v := ?_) rfl hS3 ⟨by rfl, ?_⟩ ?_; rotate_left; intro w h; (try dsimp only at h); first | (go_simp; done) | (go_simp; with_reducible rfl)) | refine skR 15 rfl (fun _ => hS3) (by rfl) ?_); simp only [zq1, zq2, zq3, Act.put, zq4, zq5, zq6]
    (first | (refine tkR 16 (v := ?_) rfl hS3 ⟨by rfl, ?_⟩ ?_; rotate_left; intro w h; (try dsimp only at h); first | (go_simp; done) | (go_simp; with_reducible rfl)) | refine skR 16 rfl (fun _ => hS3) (by rfl) ?_); simp only [zq1, zq2, zq3, Act.put, zq4, zq5, zq6]
    refine wpAnyR_done (by kernel_rfl) ?_ _
    have HK3 := Lib.hid (HK2.out.then0 hk3)
    clear hk3 hS hS3
    go_wp2_with fail
    go_ret
    exact ⟨rfl, HK3.out⟩
set_option maxRecDepth 100000 in
set_option maxHeartbeats 3200000 in
theorem rsetg_ok (a : Nat) (gt : Int) (x : V3) (hx : 0 ≤ x.lo ∧ x.lo ≤ 18446744073709551615) (hb : Blk w rb 89 (rCells fl tl ml gl el' dl il)) (hown : Own w B 109 5 AnyV gl n F) (hn : n ≤ 65536) (ha : a < n) (f0 : F (a * 5) = .int .u8 gt) (hE : globB gt x = true) :
    Calls Tryz.prog 110 #[.pointer (some ⟨rb, 0, none⟩), .int .i64 (a : Int), .agg #[.int .u8 x.t, .int .u64 x.lo, .int .u64 x.hi]] w fun e w' => e = .returned (.int .i64 0) ∧ Blk w' rb 89 (rCells fl tl ml gl el' dl il) ∧ Own w' B 109 5 AnyV gl n (setG F a x) ∧ Kept (ST rb gl) w w' := by
  obtain ⟨xt, xl, xh⟩ := x
  dsimp only at hx
  obtain ⟨g, fc, hfl, _, _⟩ := hown.is_some (by omega)
  subst hfl
  have hka : Kept S0 w (w.alloc (.cells #[.int .u8 xt, .int .u64 xl, .int .u64 xh] 65)) := (Kept.refl S0 w).alloc _
  have hb1 := hka.blk hb (fun x => x)
  have ho1 := hown.kept hka (fun _ _ x => x)
  have c1 : (w.alloc (.cells #[.int .u8 xt, .int .u64 xl, .int .u64 xh] 65)).cell? ⟨rb, 3, none⟩ = some (.slice (some ⟨g, 0, none⟩) n fc) := hb1.cell 3
  have HX := Lib.hid (Blk.new w 65 #[.int .u8 xt, .int .u64 xl, .int .u64 xh])
  have HG := Lib.hid (ho1.rowcell (j := a * 5) (by omega) |>.trans (congrArg some f0))
  have HO := Lib.hid ho1
  have HB := Lib.hid hb1
  have HK := Lib.hid hka
  have HHAS := Lib.hid (fun w => rhas_any xt xl xh w hx.1 hx.2)
  have HT := Lib.hid (show inA (a : Int) (n : Int) = true by unfold inA; exact decide_eq_true (by omega))
  have i0 : (0 : Int) ≤ (a : Int) := by omega
  have i1 : (a : Int) < (n : Int) := by omega
  have HF0 := Lib.hid f0
  clear hb hown hb1 ho1 hka f0
  have hcase : (xt == gt) = true ∧ hasB xt xl xh = true := by unfold globB at hE; simpa using hE
  clear hE
  obtain ⟨ht, hh⟩ := hcase
  have htt : (xt != gt) = false := by unfold bne; rw [ht]; rfl
  have HH := Lib.hid hh
  clear ht hh
  go_enter Tryz.func110, Tryz.ntmps110
  go_wp2_with fail
  refine (there_any a n _).mono ?_
  rintro e w1 ⟨rfl, rfl⟩
  rw [HT.out]
  go_wp2_with fail
  generalize w.alloc (.cells #[.int .u8 xt, .int .u64 xl, .int .u64 xh] 65) = w1 at *
  generalize hbx : w.heap.size = bx at *
  have hS : w1.drew.cell? ⟨bx, 0, none⟩ = some (.int .u8 xt) ∧ w1.drew.cell? ⟨bx, 1, none⟩ = some (.int .u64 xl) ∧ w1.drew.cell? ⟨bx, 2, none⟩ = some (.int .u64 xh) ∧ w1.drew.cell? ⟨rb, 3, none⟩ = some (.slice (some ⟨g, 0, none⟩) n fc) ∧ w1.drew.cell? ⟨g, a * 5, none⟩ = some (.int .u8 gt) := ⟨HX.out.cell 0, HX.out.cell 1, HX.out.cell 2, c1, HG.out⟩
  refine wp_region_R (fun w' => w'.cell? ⟨bx, 0, none⟩ = some (.int .u8 xt) ∧ w'.cell? ⟨bx, 1, none⟩ = some (.int .u64 xl) ∧ w'.cell? ⟨bx, 2, none⟩ = some (.int .u64 xh) ∧ w'.cell? ⟨rb, 3, none⟩ = some (.slice (some ⟨g, 0, none⟩) n fc) ∧ w'.cell? ⟨g, a * 5, none⟩ = some (.int .u8 gt)) [] (by kernel_rfl) ?_
  have hdd := (Kept.refl S0 w1).drew
  have HX2 := Lib.hid HX.out.drew
  have HO2 := Lib.hid (HO.out.kept hdd (fun _ _ x => x))
  have HB2 := Lib.hid HB.out.drew
  have HK2 := Lib.hid HK.out.drew
  clear hdd HX HO HB HK HG c1
  generalize w1.drew = w2 at *
  (first | (refine tkR 0 (v := ?_) rfl hS ⟨by rfl, ?_⟩ ?_; rotate_left; intro w h; (try dsimp only at h); first | (go_simp; done) | (go_simp; with_reducible rfl)) | refine skR 0 rfl (fun _ => hS) (by rfl) ?_); simp only [zq1, zq2, Act.put, zq4, zq5, zq6]
  (first | (refine tkR 1 (v := ?_) rfl hS ⟨by rfl, ?_⟩ ?_; rotate_left; intro w h; (try dsimp only at h); first | (go_simp; done) | (go_simp; with_reducible rfl)) | refine skR 1 rfl (fun _ => hS) (by rfl) ?_); simp only [zq1, zq2, zq3, Act.put, zq4, zq5, zq6]
  (first | (refine tkR 2 (v := ?_) rfl hS ⟨by rfl, ?_⟩ ?_; rotate_left; intro w h; (try dsimp only at h); first | (go_simp; done) | (go_simp; with_reducible rfl)) | refine skR 2 rfl (fun _ => hS) (by rfl) ?_); simp only [zq1, zq2, zq3, Act.put, zq4, zq5, zq6]
  (first | (refine tkR 3 (v := ?_) rfl hS ⟨by rfl, ?_⟩ ?_; rotate_left; intro w h; (try dsimp only at h); first | (go_simp; done) | (go_simp; with_reducible rfl)) | refine skR 3 rfl (fun _ => hS) (by rfl) ?_); simp only [zq1, zq2, zq3, Act.put, zq4, zq5, zq6]
  (first | (refine tkR 4 (v := ?_) rfl hS ⟨by rfl, ?_⟩ ?_; rotate_left; intro w h; (try dsimp only at h); first | (go_simp; done) | (go_simp; with_reducible rfl)) | refine skR 4 rfl (fun _ => hS) (by rfl) ?_); simp only [zq1, zq2, zq3, Act.put, zq4, zq5, zq6]
  (first | (refine tkR 5 (v := ?_) rfl hS ⟨by rfl, ?_⟩ ?_; rotate_left; intro w h; (try dsimp only at h); first | (go_simp; done) | (go_simp; with_reducible rfl)) | refine skR 5 rfl (fun _ => hS) (by rfl) ?_); simp only [zq1, zq2, zq3, Act.put, zq4, zq5, zq6]
  (first | (refine tkR 6 (v := ?_) rfl hS ⟨by rfl, ?_⟩ ?_; rotate_left; intro w h; (try dsimp only at h); first | (go_simp; done) | (go_simp; with_reducible rfl)) | refine skR 6 rfl (fun _ => hS) (by rfl) ?_); simp only [zq1, zq2, zq3, Act.put, zq4, zq5, zq6]
  (first | (refine tkR 7 (v := ?_) rfl hS ⟨by rfl, ?_⟩ ?_; rotate_left; intro w h; (try dsimp only at h); first | (go_simp; done) | (go_simp; with_reducible rfl)) | refine skR 7 rfl (fun _ => hS) (by rfl) ?_); simp only [zq1, zq2, zq3, Act.put, zq4, zq5, zq6]
  (first | (refine tkR 8 (v := ?_) rfl hS ⟨by rfl, ?_⟩ ?_; rotate_left; intro w h; (try dsimp only at h); first | (go_simp; done) | (go_simp; with_reducible rfl)) | refine skR 8 rfl (fun _ => hS) (by rfl) ?_); simp only [zq1, zq2, zq3, Act.put, zq4, zq5, zq6]
  (first | (refine tkR 9 (v := ?_) rfl hS ⟨by rfl, ?_⟩ ?_; rotate_left; intro w h; (try dsimp only at h); first | (go_simp; done) | (go_simp; with_reducible rfl)) | refine skR 9 rfl (fun _ => hS) (by rfl) ?_); simp only [zq1, zq2, zq3, Act.put, zq4, zq5, zq6]
  (first | (refine tkR 10 (v := ?_) rfl hS ⟨by rfl, ?_⟩ ?_; rotate_left; intro w h; (try dsimp only at h); first | (go_simp; done) | (go_simp; with_reducible rfl)) | refine skR 10 rfl (fun _ => hS) (by rfl) ?_); simp only [zq1, zq2, zq3, Act.put, zq4, zq5, zq6]
  (first | (refine tkR 11 (v := ?_) rfl hS ⟨by rfl, ?_⟩ ?_; rotate_left; intro w h; (try dsimp only at h); first | (go_simp; done) | (go_simp; with_reducible rfl)) | refine skR 11 rfl (fun _ => hS) (by rfl) ?_); simp only [zq1, zq2, zq3, Act.put, zq4, zq5, zq6]
  (first | (refine tkR 12 (v := ?_) rfl hS ⟨by rfl, ?_⟩ ?_; rotate_left; intro w h; (try dsimp only at h); first | (go_simp; done) | (go_simp; with_reducible rfl)) | refine skR 12 rfl (fun _ => hS) (by rfl) ?_); simp only [zq1, zq2, zq3, Act.put, zq4, zq5, zq6]
  (first | (refine tkR 13 (v := ?_) rfl hS ⟨by rfl, ?_⟩ ?_; rotate_left; intro w h; (try dsimp only at h); first | (go_simp; done) | (go_simp; with_reducible rfl)) | refine skR 13 rfl (fun _ => hS) (by rfl) ?_); simp only [zq1, zq2, zq3, Act.put, zq4, zq5, zq6]
  refine wpAnyR_one 14 rfl (by kernel_rfl) (fun K hK => ?_)
  go_simp
  go_at_call 84
  refine (HHAS.out _).mono ?_
  rintro e w3 ⟨rfl, hk3⟩
  rw [HH.out]
  have hS3 : w3.cell? ⟨bx, 0, none⟩ = some (.int .u8 xt) ∧ w3.cell? ⟨bx, 1, none⟩ = some (.int .u64 xl) ∧ w3.cell? ⟨bx, 2, none⟩ = some (.int .u64 xh) ∧ w3.cell? ⟨rb, 3, none⟩ = some (.slice (some ⟨g, 0, none⟩) n fc) ∧ w3.cell? ⟨g, a * 5, none⟩ = some (.int .u8 gt) := ⟨keep0 hk3 hS.1, keep0 hk3 hS.2.1, keep0 hk3 hS.2.2.1, keep0 hk3 hS.2.2.2.1, keep0 hk3 hS.2.2.2.2⟩
  refine hK.out _ _ (fun _ => hS3) ?_
  clear hK K
  (first | (refine tkR 15 (v := ?_) rfl hS3 ⟨by rfl, ?_⟩ ?_; rotate_left; intro w h; (try dsimp only at h); first | (go_simp; done) | (go_simp; with_reducible rfl)) | refine skR 15 rfl (fun _ => hS3) (by rfl) ?_); simp only [zq1, zq2, zq3, Act.put, zq4, zq5, zq6]
  (first | (refine tkR 16 (v := ?_) rfl hS3 ⟨by rfl, ?_⟩ ?_; rotate_left; intro w h; (try dsimp only at h); first | (go_simp; done) | (go_simp; with_reducible rfl)) | refine skR 16 rfl (fun _ => hS3) (by rfl) ?_); simp only [zq1, zq2, zq3, Act.put, zq4, zq5, zq6]
  refine wpAnyR_done (by kernel_rfl) ?_ _
  have HK3 := Lib.hid (HK2.out.then0 hk3)
  have HO3 := Lib.hid (HO2.out.kept hk3 (fun _ _ x => x))
  have HB3 := Lib.hid (hk3.blk HB2.out (fun x => x))
  have HX3 := Lib.hid (hk3.blk HX2.out (fun x => x))
  clear hS hS3 hk3 HK2 HO2 HB2 HX2
  go_wp2_with fail
  have hS4 : w3.drew.cell? ⟨bx, 0, none⟩ = some (.int .u8 xt) ∧ w3.drew.cell? ⟨bx, 1, none⟩ = some (.int .u64 xl) ∧ w3.drew.cell? ⟨bx, 2, none⟩ = some (.int .u64 xh) ∧ w3.drew.cell? ⟨rb, 3, none⟩ = some (.slice (some ⟨g, 0, none⟩) n fc) ∧ w3.drew.cell? ⟨g, a * 5, none⟩ = some (.int .u8 gt) := ⟨HX3.out.cell 0, HX3.out.cell 1, HX3.out.cell 2, HB3.out.cell 3, (HO3.out.rowcell (j := a * 5) (by omega)).trans (congrArg some HF0.out)⟩
  refine wp_region_R (fun w' => w'.cell? ⟨bx, 0, none⟩ = some (.int .u8 xt) ∧ w'.cell? ⟨bx, 1, none⟩ = some (.int .u64 xl) ∧ w'.cell? ⟨bx, 2, none⟩ = some (.int .u64 xh) ∧ w'.cell? ⟨rb, 3, none⟩ = some (.slice (some ⟨g, 0, none⟩) n fc) ∧ w'.cell? ⟨g, a * 5, none⟩ = some (.int .u8 gt)) [8] (by kernel_rfl) ?_
  have ho4 : Own w3.drew B 109 5 AnyV (.slice (some ⟨g, 0, none⟩) n fc) n F := HO3.out.kept ((Kept.refl S0 w3).drew) (fun _ _ x => x)
  have hb4 := HB3.out.drew
  have HK4 := Lib.hid HK3.out.drew
  clear HX3 HO3 HB3 HK3
  generalize w3.drew = w4 at *
  (first | (refine tkR 0 (v := ?_) rfl hS4 ⟨by rfl, ?_⟩ ?_; rotate_left; intro w h; (try dsimp only at h); first | (go_simp; done) | (go_simp; with_reducible rfl)) | refine skR 0 rfl (fun _ => hS4) (by rfl) ?_); simp only [zq1, zq2, Act.put, zq4, zq5, zq6]
  (first | (refine tkR 1 (v := ?_) rfl hS4 ⟨by rfl, ?_⟩ ?_; rotate_left; intro w h; (try dsimp only at h); first | (go_simp; done) | (go_simp; with_reducible rfl)) | refine skR 1 rfl (fun _ => hS4) (by rfl) ?_); simp only [zq1, zq2, zq3, Act.put, zq4, zq5, zq6]
  (first | (refine tkR 2 (v := ?_) rfl hS4 ⟨by rfl, ?_⟩ ?_; rotate_left; intro w h; (try dsimp only at h); first | (go_simp; done) | (go_simp; with_reducible rfl)) | refine skR 2 rfl (fun _ => hS4) (by rfl) ?_); simp only [zq1, zq2, zq3, Act.put, zq4, zq5, zq6]
  (first | (refine tkR 3 (v := ?_) rfl hS4 ⟨by rfl, ?_⟩ ?_; rotate_left; intro w h; (try dsimp only at h); first | (go_simp; done) | (go_simp; with_reducible rfl)) | refine skR 3 rfl (fun _ => hS4) (by rfl) ?_); simp only [zq1, zq2, zq3, Act.put, zq4, zq5, zq6]
  (first | (refine tkR 4 (v := ?_) rfl hS4 ⟨by rfl, ?_⟩ ?_; rotate_left; intro w h; (try dsimp only at h); first | (go_simp; done) | (go_simp; with_reducible rfl)) | refine skR 4 rfl (fun _ => hS4) (by rfl) ?_); simp only [zq1, zq2, zq3, Act.put, zq4, zq5, zq6]
  (first | (refine tkR 5 (v := ?_) rfl hS4 ⟨by rfl, ?_⟩ ?_; rotate_left; intro w h; (try dsimp only at h); first | (go_simp; done) | (go_simp; with_reducible rfl)) | refine skR 5 rfl (fun _ => hS4) (by rfl) ?_); simp only [zq1, zq2, zq3, Act.put, zq4, zq5, zq6]
  refine wpAnyR_late 6 (v := ?_) rfl (by kernel_rfl) (by kernel_rfl) (by kernel_rfl) (by kernel_rfl) (fun _ _ _ h => h) (fun _ => hS4) ⟨by rfl, ?_⟩ ?_
  rotate_left; (intro w; first | (go_simp; done) | (go_simp; with_reducible rfl))
  simp only [zq1, zq2, zq3, Act.put, zq4, zq5, zq6]
  refine wpAnyR_late 7 (v := ?_) rfl (by kernel_rfl) (by kernel_rfl) (by kernel_rfl) (by kernel_rfl) (fun _ _ _ h => h) (fun _ => hS4) ⟨by rfl, ?_⟩ ?_
  rotate_left; (intro w; first | (go_simp; done) | (go_simp; with_reducible rfl))
  simp only [zq1, zq2, zq3, Act.put, zq4, zq5, zq6]
  have r0 := ho4.rowcell (j := a * 5 + 2) (by omega)
  have r1 : w4.cell? ⟨g, a * 5 + 2 + 1, none⟩ = some (F (a * 5 + 2 + 1)) := ho4.rowcell (by omega)
  have r2 : w4.cell? ⟨g, a * 5 + 2 + 2, none⟩ = some (F (a * 5 + 2 + 2)) := ho4.rowcell (by omega)
  have s0 := ho4.frozen (a * 5 + 2)
  have s1 : w4.frozen? ⟨g, a * 5 + 2 + 1, none⟩ = false := ho4.frozen _
  have s2 : w4.frozen? ⟨g, a * 5 + 2 + 2, none⟩ = false := ho4.frozen _
  refine wpAnyR_one 8 rfl (by kernel_rfl) (fun K hK => ?_)
  go_simp
  refine hK.out _ _ (fun h => absurd h (by decide)) ?_
  clear hK K
  refine wpAnyR_done (by kernel_rfl) ?_ _
  have HBF := Lib.hid (show Blk (((w4.setCell ⟨g, a * 5 + 2, none⟩ (.int .u8 xt)).setCell ⟨g, a * 5 + 2 + 1, none⟩ (.int .u64 xl)).setCell ⟨g, a * 5 + 2 + 2, none⟩ (.int .u64 xh)) rb 89 (rCells fl tl ml (.slice (some ⟨g, 0, none⟩) n fc) el' dl il) from by
    have hne : rb ≠ g := fun e => ho4.ne_blk hb4 (by decide) (by rw [e]; rfl)
    exact ((hb4.far (p := ⟨g, a * 5 + 2, none⟩) hne _).far (p := ⟨g, a * 5 + 2 + 1, none⟩) hne _).far (p := ⟨g, a * 5 + 2 + 2, none⟩) hne _)
  have HOF := Lib.hid (((ho4.set1 (j := a * 5 + 2) (.int .u8 xt)).set1 (j := a * 5 + 2 + 1) (.int .u64 xl)).set1 (j := a * 5 + 2 + 2) (.int .u64 xh))
  have HKF := Lib.hid ((((HK4.out.of0 (ST rb (.slice (some ⟨g, 0, none⟩) n fc))).setCell (p := ⟨g, a * 5 + 2, none⟩) (.inl (.inr rfl)) (.int .u8 xt)).setCell (p := ⟨g, a * 5 + 2 + 1, none⟩) (.inl (.inr rfl)) (.int .u64 xl)).setCell (p := ⟨g, a * 5 + 2 + 2, none⟩) (.inl (.inr rfl)) (.int .u64 xh))
  clear ho4 hb4 hS4 r0 r1 r2 s0 s1 s2
  go_wp2_with fail
  go_ret
  exact ⟨rfl, HBF.out, HOF.out, HKF.out⟩
set_option maxHeartbeats 1600000 in
theorem rdropelem_in (a : Nat) (hb : Blk w rb 89 (rCells fl tl ml gl el' dl il)) (hown : Own w B 163 2 AnyV el' n F) (hn : n ≤ 65536) (ha : a < n) :
    Calls Tryz.prog 111 #[.pointer (some ⟨rb, 0, none⟩), .int .u8 1, .int .i64 (a : Int)] w fun e w' => e = .returned (.int .i64 0) ∧ Blk w' rb 89 (rCells fl tl ml gl el' dl il) ∧ Own w' B 163 2 AnyV el' n (fun i => if i = a * 2 + 1 then .slice none 0 0 else F i) ∧ Kept (ST rb el') w w' := by
  obtain ⟨g, fc, hfl, _, _⟩ := hown.is_some (by omega)
  subst hfl
  have c1 : w.cell? ⟨rb, 4, none⟩ = some (.slice (some ⟨g, 0, none⟩) n fc) := hb.cell 4
  have r0 := hown.rowcell (j := a * 2 + 1) (by omega)
  have s0 := hown.frozen (a * 2 + 1)
  have HT := Lib.hid (show inA (a : Int) (n : Int) = true by unfold inA; exact decide_eq_true (by omega))
  have i0 : (0 : Int) ≤ (a : Int) := by omega
  have i1 : (a : Int) < (n : Int) := by omega
  have HBF := Lib.hid (show Blk (w.setCell ⟨g, a * 2 + 1, none⟩ (.slice none 0 0)) rb 89 _ from hb.far (p := ⟨g, a * 2 + 1, none⟩) (fun e => hown.ne_blk hb (by decide) (by have e' : rb = g := e; rw [e']; rfl)) _)
  have HOF := Lib.hid (hown.set1 (j := a * 2 + 1) (.slice none 0 0))
  have HKF := Lib.hid ((Kept.refl (ST rb (.slice (some ⟨g, 0, none⟩) n fc)) w).setCell (p := ⟨g, a * 2 + 1, none⟩) (.inl (.inr rfl)) (.slice none 0 0))
  clear hb hown
  go_enter Tryz.func111, Tryz.ntmps111
  go_wp2_with fail
  refine (there_any a n _).mono ?_
  rintro e w1 ⟨rfl, rfl⟩
  rw [HT.out]
  go_wp2_with fail
  go_ret
  exact ⟨rfl, HBF.out, HOF.out, HKF.out⟩
set_option maxHeartbeats 1600000 in
theorem rdropelem_out (a : Int) (hb : Blk w rb 89 (rCells fl tl ml gl el' dl il)) (hown : Own w B 163 2 AnyV el' n F) (_hn : n ≤ 65536) (ha : a < 0 ∨ (n : Int) ≤ a) :
    Calls Tryz.prog 111 #[.pointer (some ⟨rb, 0, none⟩), .int .u8 1, .int .i64 a] w fun e w' => e = .returned (.int .i64 11) ∧ w = w' := by
  obtain ⟨lA, lc, hlv, _, _, _⟩ := hown.out
  subst hlv
  have c1 : w.cell? ⟨rb, 4, none⟩ = some (.slice lA n lc) := hb.cell 4
  have HT := Lib.hid (show inA a (n : Int) = false by unfold inA; exact decide_eq_false (by omega))
  clear hb hown ha
  go_enter Tryz.func111, Tryz.ntmps111
  go_wp2_with fail
  refine (there_any a n _).mono ?_
  rintro e w1 ⟨rfl, rfl⟩
  rw [HT.out]
  go_wp2_with fail
  go_ret
  exact ⟨rfl, rfl⟩
set_option maxHeartbeats 1600000 in
theorem rdropdata_in (a : Nat) (hb : Blk w rb 89 (rCells fl tl ml gl el' dl il)) (hown : Own w B 71 1 AnyV dl n F) (hn : n ≤ 65536) (ha : a < n) :
    Calls Tryz.prog 111 #[.pointer (some ⟨rb, 0, none⟩), .int .u8 2, .int .i64 (a : Int)] w fun e w' => e = .returned (.int .i64 0) ∧ Blk w' rb 89 (rCells fl tl ml gl el' dl il) ∧ Own w' B 71 1 AnyV dl n (fun i => if i = a then .slice none 0 0 else F i) ∧ Kept (ST rb dl) w w' := by
  obtain ⟨g, fc, hfl, _, _⟩ := hown.is_some (by omega)
  subst hfl
  have c1 : w.cell? ⟨rb, 5, none⟩ = some (.slice (some ⟨g, 0, none⟩) n fc) := hb.cell 5
  have r0 := hown.rowcell (j := a) (by omega)
  have s0 := hown.frozen (a)
  have HT := Lib.hid (show inA (a : Int) (n : Int) = true by unfold inA; exact decide_eq_true (by omega))
  have i0 : (0 : Int) ≤ (a : Int) := by omega
  have i1 : (a : Int) < (n : Int) := by omega
  have HBF := Lib.hid (show Blk (w.setCell ⟨g, a, none⟩ (.slice none 0 0)) rb 89 _ from hb.far (p := ⟨g, a, none⟩) (fun e => hown.ne_blk hb (by decide) (by have e' : rb = g := e; rw [e']; rfl)) _)
  have HOF := Lib.hid (hown.set1 (j := a) (.slice none 0 0))
  have HKF := Lib.hid ((Kept.refl (ST rb (.slice (some ⟨g, 0, none⟩) n fc)) w).setCell (p := ⟨g, a, none⟩) (.inl (.inr rfl)) (.slice none 0 0))
  clear hb hown
  go_enter Tryz.func111, Tryz.ntmps111
  go_wp2_with fail
  refine (there_any a n _).mono ?_
  rintro e w1 ⟨rfl, rfl⟩
  rw [HT.out]
  go_wp2_with fail
  go_ret
  exact ⟨rfl, HBF.out, HOF.out, HKF.out⟩
set_option maxHeartbeats 1600000 in
theorem rdropdata_out (a : Int) (hb : Blk w rb 89 (rCells fl tl ml gl el' dl il)) (hown : Own w B 71 1 AnyV dl n F) (_hn : n ≤ 65536) (ha : a < 0 ∨ (n : Int) ≤ a) :
    Calls Tryz.prog 111 #[.pointer (some ⟨rb, 0, none⟩), .int .u8 2, .int .i64 a] w fun e w' => e = .returned (.int .i64 11) ∧ w = w' := by
  obtain ⟨lA, lc, hlv, _, _, _⟩ := hown.out
  subst hlv
  have c1 : w.cell? ⟨rb, 5, none⟩ = some (.slice lA n lc) := hb.cell 5
  have HT := Lib.hid (show inA a (n : Int) = false by unfold inA; exact decide_eq_false (by omega))
  clear hb hown ha
  go_enter Tryz.func111, Tryz.ntmps111
  go_wp2_with fail
  refine (there_any a n _).mono ?_
  rintro e w1 ⟨rfl, rfl⟩
  rw [HT.out]
  go_wp2_with fail
  go_ret
  exact ⟨rfl, rfl⟩
end
end Go.Proofs.YtlnkdnmeikpckaaGreat
namespace Go.Proofs.YtlnkdnmeikpckaaGreat.T20
open Go.RowKit
set_option maxRecDepth 100000
/-- What a table is: its type but its least, how many there are, which. -/
structure PT where
  el : Int
  mx : Int
  bd : Bool
  n : Nat
  f : Nat → V3
section
variable {w w1 w2 : World} {B tp rp : Nat} {mn : Int} {lt lr lt' lr' : Value} {s : PT} {n' : Nat} {f' : Nat → V3}
end
section
variable {w : World} {tb base N : Nat} {el mn mx : Int} {bd : Bool} {lv : Value} {f : Nat → V3}
end
end Go.Proofs.YtlnkdnmeikpckaaGreat.T20
namespace Go.Proofs.YtlnkdnmeikpckaaGreat
open Go.RowKit
set_option maxRecDepth 100000
/-- A value's bits are bits. -/
def VOk (x : V3) : Prop := 0 ≤ x.lo ∧ x.lo ≤ 18446744073709551615
/-- Numbers in a row of cells. -/
def intV (f : Nat → Int) : Nat → Value := fun i => .int .i64 (f i)
end Go.Proofs.YtlnkdnmeikpckaaGreat
namespace Go.Proofs.YtlnkdnmeikpckaaGreat
open Go.RowKit
set_option maxRecDepth 100000
/-- A list of numbers. -/
structure IL where
  n : Nat
  f : Nat → Int
structure PFn where
  np : Nat
  v : Nat → UInt8
  nr : Nat
  u : Nat → UInt8
  h : Bool
  s : ByteArray
  i : Int
  b : Int
structure PMm where
  pg : Nat
  mx : Int
  bd : Bool
structure PGl where
  t : Int
  m : Bool
  x : V3
structure PEl where
  t : Int
  n : Nat
  f : Nat → V3
structure PIn where
  a : Nat → IL
  en : Nat
  ek : Nat → Int
  ea : Nat → Int
/-- What a store holds. -/
structure PSt where
  nf : Nat
  F : Nat → PFn
  nt : Nat
  T : Nat → T20.PT
  nm : Nat
  M : Nat → PMm
  ng : Nat
  G : Nat → PGl
  ne : Nat
  E : Nat → PEl
  nd : Nat
  ni : Nat
  I : Nat → PIn
/-- A slice whose cells lie in a block that nobody writes. -/
def SlL (lab : Nat → Nat) (w : World) (A : Option Addr) (n : Nat) (F : Nat → Value) : Prop := 0 < n → ∃ b o, A = some ⟨b, o, none⟩ ∧ lab b = 0 ∧ ∀ i, i < n → w.cell? ⟨b, o + i, none⟩ = some (F i)
structure LstL (lab : Nat → Nat) (w : World) (sz bytes : Nat) (A : Option Addr) (n c : Nat) (F : Nat → Value) : Prop where
  sl : SlL lab w A (n * sz) F
  z : A = none → n = 0 ∧ c = 0
  sm : n * bytes ≤ 140737488351232
section
variable {lab lab' : Nat → Nat} {w w' : World} {A : Option Addr} {n c sz bytes : Nat} {F : Nat → Value} {S : Nat → Prop}
/-- What moves: blocks of S alone are written, labels of what was there stay. -/
structure Mv (lab lab' : Nat → Nat) (S : Nat → Prop) (w w' : World) : Prop where
  k : Kept S w w'
  l : ∀ b, b < w.heap.size → lab' b = lab b
theorem SlL.move (h : SlL lab w A n F) (m : Mv lab lab' S w w') (hS : ∀ b, b < w.heap.size → S b → lab b ≠ 0) : SlL lab' w' A n F := fun hn => by
  obtain ⟨b, o, e, hl, hc⟩ := h hn
  have hb : b < w.heap.size := World.block_lt_of_cell? _ _ (hc 0 hn)
  exact ⟨b, o, e, (m.l b hb).trans hl, fun i hi => (m.k.cell (p := ⟨b, o + i, none⟩) hb (fun x => hS b hb x hl)).trans (hc i hi)⟩
theorem LstL.move (h : LstL lab w sz bytes A n c F) (m : Mv lab lab' S w w') (hS : ∀ b, b < w.heap.size → S b → lab b ≠ 0) : LstL lab' w' sz bytes A n c F := ⟨h.sl.move m hS, h.z, h.sm⟩
theorem cell_move {b j : Nat} {v : Value} (h : w.cell? ⟨b, j, none⟩ = some v) (hl : lab b = 0) (m : Mv lab lab' S w w') (hS : ∀ b, b < w.heap.size → S b → lab b ≠ 0) : w'.cell? ⟨b, j, none⟩ = some v ∧ lab' b = 0 := by
  have hb : b < w.heap.size := World.block_lt_of_cell? _ _ h
  exact ⟨(m.k.cell (p := ⟨b, j, none⟩) hb (fun x => hS b hb x hl)).trans h, (m.l b hb).trans hl⟩
/-- A list of one's own, in a block that nobody writes. -/
theorem lstl_own {B e : Nat} {Q : Value → Prop} (h : Own w B e sz Q (.slice A n c) n F) (hsm : n * bytes ≤ 140737488351232) (hl : ∀ g, (Value.slice A n c).ownBlock = some g → lab g = 0) : LstL lab w sz bytes A n c F := by
  rcases h with ⟨e, rfl⟩ | ⟨g, cap, fr, e, h1, h2, h3, h4, h5, h6⟩
  · cases e
    exact ⟨fun h => absurd h (by omega), fun _ => ⟨rfl, rfl⟩, hsm⟩
  · cases e
    exact ⟨fun hn => ⟨g, 0, rfl, hl g rfl, fun i hi => by rw [Nat.zero_add, ← h5 i hi]; exact h4.cell (Nat.lt_of_lt_of_le hi (Nat.mul_le_mul_right _ h2))⟩, (fun h => by cases h), hsm⟩
end
structure FnL (lab : Nat → Nat) (w : World) (F : Nat → Value) (i : Nat) (p : PFn) : Prop where
  ex : ∃ A c C d, F (i * 6) = .slice A p.np c ∧ F (i * 6 + 1) = .slice C p.nr d ∧ F (i * 6 + 2) = .bool p.h ∧ F (i * 6 + 3) = .string p.s ∧ F (i * 6 + 4) = .int .i64 p.i ∧ F (i * 6 + 5) = .int .i64 p.b ∧ LstL lab w 1 1 A p.np c (byteV p.v) ∧ LstL lab w 1 1 C p.nr d (byteV p.u)
structure ElL (lab : Nat → Nat) (w : World) (F : Nat → Value) (i : Nat) (p : PEl) : Prop where
  ex : ∃ A c, F (i * 2) = .int .u8 p.t ∧ F (i * 2 + 1) = .slice A p.n c ∧ LstL lab w 3 24 A p.n c (vcell p.f)
  ok : ∀ j, j < p.n → VOk (p.f j)
structure DtL (lab : Nat → Nat) (w : World) (F : Nat → Value) (i : Nat) : Prop where
  ex : ∃ A m c v, F i = .slice A m c ∧ LstL lab w 1 1 A m c (byteV v)
structure GlF (F : Nat → Value) (i : Nat) (p : PGl) : Prop where
  f0 : F (i * 5) = .int .u8 p.t
  f1 : F (i * 5 + 1) = .bool p.m
  f2 : F (i * 5 + 2) = .int .u8 p.x.t
  f3 : F (i * 5 + 3) = .int .u64 p.x.lo
  f4 : F (i * 5 + 4) = .int .u64 p.x.hi
  ok : VOk p.x
/-- Exports in a row of cells. -/
structure ExF (F : Nat → Value) (n : Nat) (k a : Nat → Int) : Prop where
  nm : ∀ j, j < n → ∃ s, F (j * 3) = .string s
  kd : ∀ j, j < n → F (j * 3 + 1) = .int .u8 (k j)
  ad : ∀ j, j < n → F (j * 3 + 2) = .int .i64 (a j)
  kb : ∀ j, j < n → 0 ≤ k j ∧ k j ≤ 255
structure InAt (lab : Nat → Nat) (w : World) (ib : Nat) (p : PIn) : Prop where
  l : lab ib = 0
  a : ∀ j, j < 6 → ∃ A c, w.cell? ⟨ib, j + 1, none⟩ = some (.slice A (p.a j).n c) ∧ LstL lab w 1 8 A (p.a j).n c (intV (p.a j).f)
  e : ∃ A c V, w.cell? ⟨ib, 8, none⟩ = some (.slice A p.en c) ∧ LstL lab w 3 32 A p.en c V ∧ ExF V p.en p.ek p.ea
  t : ∃ A n c, w.cell? ⟨ib, 0, none⟩ = some (.slice A n c)
  c : ∃ A n c, w.cell? ⟨ib, 7, none⟩ = some (.slice A n c)
structure InL (lab : Nat → Nat) (w : World) (F : Nat → Value) (i : Nat) (p : PIn) : Prop where
  ex : ∃ ib, F i = .pointer (some ⟨ib, 0, none⟩) ∧ InAt lab w ib p
section
variable {lab lab' : Nat → Nat} {w w' : World} {F G : Nat → Value} {S : Nat → Prop} {i : Nat}
theorem FnL.move {p : PFn} (h : FnL lab w F i p) (m : Mv lab lab' S w w') (hS : ∀ b, b < w.heap.size → S b → lab b ≠ 0) (hF : ∀ j, j < 6 → G (i * 6 + j) = F (i * 6 + j)) : FnL lab' w' G i p := by
  obtain ⟨A, c, C, d, f0, f1, f2, f3, f4, f5, l1, l2⟩ := h.ex
  exact ⟨A, c, C, d, (hF 0 (by omega)).trans f0, (hF 1 (by omega)).trans f1, (hF 2 (by omega)).trans f2, (hF 3 (by omega)).trans f3, (hF 4 (by omega)).trans f4, (hF 5 (by omega)).trans f5, l1.move m hS, l2.move m hS⟩
theorem ElL.move {p : PEl} (h : ElL lab w F i p) (m : Mv lab lab' S w w') (hS : ∀ b, b < w.heap.size → S b → lab b ≠ 0) (hF : ∀ j, j < 2 → G (i * 2 + j) = F (i * 2 + j)) : ElL lab' w' G i p := by
  obtain ⟨A, c, f0, f1, l1⟩ := h.ex
  exact ⟨⟨A, c, (hF 0 (by omega)).trans f0, (hF 1 (by omega)).trans f1, l1.move m hS⟩, h.ok⟩
theorem DtL.move (h : DtL lab w F i) (m : Mv lab lab' S w w') (hS : ∀ b, b < w.heap.size → S b → lab b ≠ 0) (hF : G i = F i) : DtL lab' w' G i := by
  obtain ⟨A, k, c, v, f0, l1⟩ := h.ex
  exact ⟨A, k, c, v, hF.trans f0, l1.move m hS⟩
theorem GlF.move {p : PGl} (h : GlF F i p) (hF : ∀ j, j < 5 → G (i * 5 + j) = F (i * 5 + j)) : GlF G i p :=
  ⟨(hF 0 (by omega)).trans h.f0, (hF 1 (by omega)).trans h.f1, (hF 2 (by omega)).trans h.f2, (hF 3 (by omega)).trans h.f3, (hF 4 (by omega)).trans h.f4, h.ok⟩
theorem InAt.move {ib : Nat} {p : PIn} (h : InAt lab w ib p) (m : Mv lab lab' S w w') (hS : ∀ b, b < w.heap.size → S b → lab b ≠ 0) : InAt lab' w' ib p := by
  obtain ⟨A, c, V, he, hl, hx⟩ := h.e
  obtain ⟨A2, n2, c2, h2⟩ := h.t
  obtain ⟨A3, n3, c3, h3⟩ := h.c
  exact ⟨(cell_move he h.l m hS).2, fun j hj => by
    obtain ⟨A, c, hc, hl⟩ := h.a j hj
    exact ⟨A, c, (cell_move hc h.l m hS).1, hl.move m hS⟩, ⟨A, c, V, (cell_move he h.l m hS).1, hl.move m hS, hx⟩, ⟨A2, n2, c2, (cell_move h2 h.l m hS).1⟩, ⟨A3, n3, c3, (cell_move h3 h.l m hS).1⟩⟩
theorem InL.move {p : PIn} (h : InL lab w F i p) (m : Mv lab lab' S w w') (hS : ∀ b, b < w.heap.size → S b → lab b ≠ 0) (hF : G i = F i) : InL lab' w' G i p := by
  obtain ⟨ib, f0, l1⟩ := h.ex
  exact ⟨ib, hF.trans f0, l1.move m hS⟩
end
/-- The values of a store's lists, their cells. -/
structure SV where
  fl : Value
  tl : Value
  ml : Value
  gl : Value
  el : Value
  dl : Value
  il : Value
  F : Nat → Value
  T : Nat → Value
  M : Nat → Value
  G : Nat → Value
  E : Nat → Value
  D : Nat → Value
  I : Nat → Value
/-- What nobody writes but by its list. -/
structure Still (lab : Nat → Nat) (w : World) (P : PSt) (v : SV) : Prop where
  fn : ∀ i, i < P.nf → FnL lab w v.F i (P.F i)
  gl : ∀ i, i < P.ng → GlF v.G i (P.G i)
  el : ∀ i, i < P.ne → ElL lab w v.E i (P.E i)
  dt : ∀ i, i < P.nd → DtL lab w v.D i
  inn : ∀ i, i < P.ni → InL lab w v.I i (P.I i)
theorem Still.move {lab lab' : Nat → Nat} {w w' : World} {S : Nat → Prop} {P : PSt} {v : SV} (h : Still lab w P v) (m : Mv lab lab' S w w') (hS : ∀ b, b < w.heap.size → S b → lab b ≠ 0) : Still lab' w' P v :=
  ⟨fun i hi => (h.fn i hi).move m hS (fun _ _ => rfl), h.gl, fun i hi => (h.el i hi).move m hS (fun _ _ => rfl), fun i hi => (h.dt i hi).move m hS rfl, fun i hi => (h.inn i hi).move m hS rfl⟩
/-- A table of a store. -/
structure TbL (B : Nat) (lab : Nat → Nat) (w : World) (F : Nat → Value) (i : Nat) (p : T20.PT) : Prop where
  ex : ∃ tb mn lt, F i = .pointer (some ⟨tb, 0, none⟩) ∧ T20.TabAt w tb B p.n p.el mn p.mx p.bd lt p.f ∧ lab tb = 4 * i + 3 ∧ ∀ g, lt.ownBlock = some g → lab g = 4 * i + 3
  hn : p.n ≤ 16384
  hel : p.el = 112 ∨ p.el = 111
  h3 : 0 ≤ p.mx
  h4 : p.mx ≤ 4294967295
  ok : ∀ j, j < p.n → VOk (p.f j)
structure RTbL (B : Nat) (lab : Nat → Nat) (w : World) (F : Nat → Value) (i : Nat) (p : T20.PT) : Prop where
  ex : ∃ tb mn lt, F i = .pointer (some ⟨tb, 0, none⟩) ∧ T20.RefAt w tb B p.n p.el mn p.mx p.bd lt p.f ∧ lab tb = 4 * i + 4 ∧ ∀ g, lt.ownBlock = some g → lab g = 4 * i + 4
  hn : p.n ≤ 16384
  hel : p.el = 112 ∨ p.el = 111
  h3 : 0 ≤ p.mx
  h4 : p.mx ≤ 4294967295
  ok : ∀ j, j < p.n → VOk (p.f j)
structure MmL (B : Nat) (lab : Nat → Nat) (w : World) (F : Nat → Value) (i : Nat) (p : PMm) : Prop where
  ex : ∃ pb bb mn f, F i = .pointer (some ⟨pb, 0, none⟩) ∧ M19.MemAt w pb bb (p.pg * 65536) mn p.mx p.bd f ∧ lab pb = 4 * i + 5 ∧ lab bb = 4 * i + 5 ∧ B ≤ pb ∧ B ≤ bb
  hp : p.pg ≤ 16
  h3 : 0 ≤ p.mx
  h4 : p.mx ≤ 4294967295
structure RMmL (B : Nat) (lab : Nat → Nat) (w : World) (F : Nat → Value) (i : Nat) (p : PMm) : Prop where
  ex : ∃ pb mn lv f, F i = .pointer (some ⟨pb, 0, none⟩) ∧ M19.RMemAt w pb B (p.pg * 65536) mn p.mx p.bd lv f ∧ lab pb = 4 * i + 6 ∧ ∀ g, lv.ownBlock = some g → lab g = 4 * i + 6
  hp : p.pg ≤ 16
  h3 : 0 ≤ p.mx
  h4 : p.mx ≤ 4294967295
section
variable {B : Nat} {lab lab' : Nat → Nat} {w w' : World} {F G : Nat → Value} {S : Nat → Prop} {i : Nat}
theorem TbL.move {p : T20.PT} (h : TbL B lab w F i p) (m : Mv lab lab' S w w') (hS : ∀ b, b < w.heap.size → S b → lab b ≠ 4 * i + 3) (hF : G i = F i) : TbL B lab' w' G i p := by
  obtain ⟨tb, mn, lt, f0, ht, l1, l2⟩ := h.ex
  have hb := ht.obj.lt
  have hg := fun g e => (ht.own.lt g e).2
  exact ⟨⟨tb, mn, lt, hF.trans f0, ht.kept m.k (fun x => hS _ hb x l1) (fun g e x => hS _ (hg g e) x (l2 g e)), (m.l _ hb).trans l1, fun g e => (m.l _ (hg g e)).trans (l2 g e)⟩, h.hn, h.hel, h.h3, h.h4, h.ok⟩
theorem RTbL.move {p : T20.PT} (h : RTbL B lab w F i p) (m : Mv lab lab' S w w') (hS : ∀ b, b < w.heap.size → S b → lab b ≠ 4 * i + 4) (hF : G i = F i) : RTbL B lab' w' G i p := by
  obtain ⟨tb, mn, lt, f0, ht, l1, l2⟩ := h.ex
  have hb := ht.obj.lt
  have hg := fun g e => (ht.own.lt g e).2
  exact ⟨⟨tb, mn, lt, hF.trans f0, ht.kept m.k (fun x => hS _ hb x l1) (fun g e x => hS _ (hg g e) x (l2 g e)), (m.l _ hb).trans l1, fun g e => (m.l _ (hg g e)).trans (l2 g e)⟩, h.hn, h.hel, h.h3, h.h4, h.ok⟩
theorem MmL.move {p : PMm} (h : MmL B lab w F i p) (m : Mv lab lab' S w w') (hS : ∀ b, b < w.heap.size → S b → lab b ≠ 4 * i + 5) (hF : G i = F i) : MmL B lab' w' G i p := by
  obtain ⟨pb, bb, mn, f, f0, ht, l1, l2, l3, l4⟩ := h.ex
  have hb := ht.obj.lt
  have hr := ht.row.lt
  exact ⟨⟨pb, bb, mn, f, hF.trans f0, ht.kept m.k (fun x => hS _ hb x l1) (fun x => hS _ hr x l2), (m.l _ hb).trans l1, (m.l _ hr).trans l2, l3, l4⟩, h.hp, h.h3, h.h4⟩
theorem RMmL.move {p : PMm} (h : RMmL B lab w F i p) (m : Mv lab lab' S w w') (hS : ∀ b, b < w.heap.size → S b → lab b ≠ 4 * i + 6) (hF : G i = F i) : RMmL B lab' w' G i p := by
  obtain ⟨pb, mn, lv, f, f0, ht, l1, l2⟩ := h.ex
  have hb := ht.obj.lt
  have hg := fun g e => (ht.own.lt g e).2
  exact ⟨⟨pb, mn, lv, f, hF.trans f0, ht.kept m.k (fun x => hS _ hb x l1) (fun g e x => hS _ (hg g e) x (l2 g e)), (m.l _ hb).trans l1, fun g e => (m.l _ (hg g e)).trans (l2 g e)⟩, h.hp, h.h3, h.h4⟩
end
/-- A store's lists. -/
structure SLists (B : Nat) (lab : Nat → Nat) (w : World) (sb : Nat) (P : PSt) (v : SV) : Prop where
  obj : Blk w sb 132 (stCells v.fl v.tl v.ml v.gl v.el v.dl v.il)
  l : lab sb = 1
  lo : B ≤ sb
  f : Own w B 51 6 AnyV v.fl P.nf v.F
  t : Own w B 55 1 AnyV v.tl P.nt v.T
  m : Own w B 59 1 AnyV v.ml P.nm v.M
  g : Own w B 149 5 AnyV v.gl P.ng v.G
  e : Own w B 155 2 AnyV v.el P.ne v.E
  d : Own w B 71 1 AnyV v.dl P.nd v.D
  i : Own w B 95 1 AnyV v.il P.ni v.I
  lf : ∀ b, v.fl.ownBlock = some b → lab b = 1
  lt : ∀ b, v.tl.ownBlock = some b → lab b = 1
  lm : ∀ b, v.ml.ownBlock = some b → lab b = 1
  lg : ∀ b, v.gl.ownBlock = some b → lab b = 1
  le : ∀ b, v.el.ownBlock = some b → lab b = 1
  ld : ∀ b, v.dl.ownBlock = some b → lab b = 1
  li : ∀ b, v.il.ownBlock = some b → lab b = 1
/-- The document's store's lists. -/
structure RLists (B : Nat) (lab : Nat → Nat) (w : World) (rb : Nat) (P : PSt) (v : SV) : Prop where
  obj : Blk w rb 89 (rCells v.fl v.tl v.ml v.gl v.el v.dl v.il)
  l : lab rb = 2
  lo : B ≤ rb
  f : Own w B 51 6 AnyV v.fl P.nf v.F
  t : Own w B 161 1 AnyV v.tl P.nt v.T
  m : Own w B 194 1 AnyV v.ml P.nm v.M
  g : Own w B 109 5 AnyV v.gl P.ng v.G
  e : Own w B 163 2 AnyV v.el P.ne v.E
  d : Own w B 71 1 AnyV v.dl P.nd v.D
  i : Own w B 176 1 AnyV v.il P.ni v.I
  lf : ∀ b, v.fl.ownBlock = some b → lab b = 2
  lt : ∀ b, v.tl.ownBlock = some b → lab b = 2
  lm : ∀ b, v.ml.ownBlock = some b → lab b = 2
  lg : ∀ b, v.gl.ownBlock = some b → lab b = 2
  le : ∀ b, v.el.ownBlock = some b → lab b = 2
  ld : ∀ b, v.dl.ownBlock = some b → lab b = 2
  li : ∀ b, v.il.ownBlock = some b → lab b = 2
section
variable {B sb : Nat} {lab lab' : Nat → Nat} {w w' : World} {S : Nat → Prop} {P : PSt} {v : SV}
theorem SLists.move (h : SLists B lab w sb P v) (m : Mv lab lab' S w w') (hS : ∀ b, b < w.heap.size → S b → lab b ≠ 1) : SLists B lab' w' sb P v :=
  ⟨m.k.blk h.obj (fun x => hS _ h.obj.lt x h.l), (m.l _ h.obj.lt).trans h.l, h.lo,
   h.f.kept m.k (fun b e x => hS b (h.f.lt b e).2 x (h.lf b e)), h.t.kept m.k (fun b e x => hS b (h.t.lt b e).2 x (h.lt b e)), h.m.kept m.k (fun b e x => hS b (h.m.lt b e).2 x (h.lm b e)), h.g.kept m.k (fun b e x => hS b (h.g.lt b e).2 x (h.lg b e)), h.e.kept m.k (fun b e x => hS b (h.e.lt b e).2 x (h.le b e)), h.d.kept m.k (fun b e x => hS b (h.d.lt b e).2 x (h.ld b e)), h.i.kept m.k (fun b e x => hS b (h.i.lt b e).2 x (h.li b e)),
   fun b e => (m.l b (h.f.lt b e).2).trans (h.lf b e), fun b e => (m.l b (h.t.lt b e).2).trans (h.lt b e), fun b e => (m.l b (h.m.lt b e).2).trans (h.lm b e), fun b e => (m.l b (h.g.lt b e).2).trans (h.lg b e), fun b e => (m.l b (h.e.lt b e).2).trans (h.le b e), fun b e => (m.l b (h.d.lt b e).2).trans (h.ld b e), fun b e => (m.l b (h.i.lt b e).2).trans (h.li b e)⟩
theorem RLists.move (h : RLists B lab w sb P v) (m : Mv lab lab' S w w') (hS : ∀ b, b < w.heap.size → S b → lab b ≠ 2) : RLists B lab' w' sb P v :=
  ⟨m.k.blk h.obj (fun x => hS _ h.obj.lt x h.l), (m.l _ h.obj.lt).trans h.l, h.lo,
   h.f.kept m.k (fun b e x => hS b (h.f.lt b e).2 x (h.lf b e)), h.t.kept m.k (fun b e x => hS b (h.t.lt b e).2 x (h.lt b e)), h.m.kept m.k (fun b e x => hS b (h.m.lt b e).2 x (h.lm b e)), h.g.kept m.k (fun b e x => hS b (h.g.lt b e).2 x (h.lg b e)), h.e.kept m.k (fun b e x => hS b (h.e.lt b e).2 x (h.le b e)), h.d.kept m.k (fun b e x => hS b (h.d.lt b e).2 x (h.ld b e)), h.i.kept m.k (fun b e x => hS b (h.i.lt b e).2 x (h.li b e)),
   fun b e => (m.l b (h.f.lt b e).2).trans (h.lf b e), fun b e => (m.l b (h.t.lt b e).2).trans (h.lt b e), fun b e => (m.l b (h.m.lt b e).2).trans (h.lm b e), fun b e => (m.l b (h.g.lt b e).2).trans (h.lg b e), fun b e => (m.l b (h.e.lt b e).2).trans (h.le b e), fun b e => (m.l b (h.d.lt b e).2).trans (h.ld b e), fun b e => (m.l b (h.i.lt b e).2).trans (h.li b e)⟩
end
/-- A store, known. -/
structure SAt (B : Nat) (lab : Nat → Nat) (w : World) (sb : Nat) (P : PSt) (v : SV) : Prop where
  ls : SLists B lab w sb P v
  st : Still lab w P v
  tb : ∀ i, i < P.nt → TbL B lab w v.T i (P.T i)
  mm : ∀ i, i < P.nm → MmL B lab w v.M i (P.M i)
/-- The document's store, known. -/
structure RAt (B : Nat) (lab : Nat → Nat) (w : World) (rb : Nat) (P : PSt) (v : SV) : Prop where
  ls : RLists B lab w rb P v
  st : Still lab w P v
  tb : ∀ i, i < P.nt → RTbL B lab w v.T i (P.T i)
  mm : ∀ i, i < P.nm → RMmL B lab w v.M i (P.M i)
section
variable {B sb : Nat} {lab lab' : Nat → Nat} {w w' : World} {S : Nat → Prop} {P : PSt} {v : SV}
/-- Where the other one's blocks alone are written. -/
theorem SAt.move (h : SAt B lab w sb P v) (m : Mv lab lab' S w w') (hS : ∀ b, b < w.heap.size → S b → lab b ≠ 0 ∧ lab b % 2 = 0) : SAt B lab' w' sb P v :=
  ⟨h.ls.move m (fun b hb x => by have := hS b hb x; omega), h.st.move m (fun b hb x => (hS b hb x).1), fun i hi => (h.tb i hi).move m (fun b hb x => by have := hS b hb x; omega) rfl, fun i hi => (h.mm i hi).move m (fun b hb x => by have := hS b hb x; omega) rfl⟩
theorem RAt.move (h : RAt B lab w sb P v) (m : Mv lab lab' S w w') (hS : ∀ b, b < w.heap.size → S b → lab b % 2 = 1) : RAt B lab' w' sb P v :=
  ⟨h.ls.move m (fun b hb x => by have := hS b hb x; omega), h.st.move m (fun b hb x => by have := hS b hb x; omega), fun i hi => (h.tb i hi).move m (fun b hb x => by have := hS b hb x; omega) rfl, fun i hi => (h.mm i hi).move m (fun b hb x => by have := hS b hb x; omega) rfl⟩
theorem SAt.kept0 (h : SAt B lab w sb P v) (hk : Kept S0 w w') : SAt B lab w' sb P v := h.move ⟨hk, fun _ _ => rfl⟩ (fun _ _ x => x.elim)
theorem RAt.kept0 (h : RAt B lab w sb P v) (hk : Kept S0 w w') : RAt B lab w' sb P v := h.move ⟨hk, fun _ _ => rfl⟩ (fun _ _ x => x.elim)
end
/-- No list is longer. -/
structure PSt.Le (P : PSt) (k : Nat) : Prop where
  f : P.nf ≤ k
  t : P.nt ≤ k
  m : P.nm ≤ k
  g : P.ng ≤ k
  e : P.ne ≤ k
  d : P.nd ≤ k
  i : P.ni ≤ k
theorem PSt.Le.mono {P : PSt} {k j : Nat} (h : P.Le k) (hj : k ≤ j) : P.Le j :=
  ⟨Nat.le_trans h.f hj, Nat.le_trans h.t hj, Nat.le_trans h.m hj, Nat.le_trans h.g hj, Nat.le_trans h.e hj, Nat.le_trans h.d hj, Nat.le_trans h.i hj⟩
end Go.Proofs.YtlnkdnmeikpckaaGreat
