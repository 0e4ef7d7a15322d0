/- What the proofs lean on, part 6 of St. No condition. -/
import Derived.Test.YtlnkdnmeikpckaaGreatMSta
import Derived.Test.YtlnkdnmeikpckaaGreatMStb
import Derived.Test.YtlnkdnmeikpckaaGreatMStc
import Derived.Test.YtlnkdnmeikpckaaGreatMStd
import Derived.Test.YtlnkdnmeikpckaaGreatMSte
import Derived.StillTailTactics
namespace Go.Proofs.YtlnkdnmeikpckaaGreat
open Go.RowKit
set_option maxRecDepth 100000
/-- The cells of the document's store. -/
def rCells (f t m g e d i : Value) : Array Value := #[f, t, m, g, e, d, i]
theorem Tryz.infoRTAB : (Tryz.prog.info? 161).map (fun i => (i.size, i.bytes, i.zero.map (fun z => z.cells.size))) = some (1, 8, some 1) := by kernel_rfl
theorem Tryz.infoRMEM : (Tryz.prog.info? 194).map (fun i => (i.size, i.bytes, i.zero.map (fun z => z.cells.size))) = some (1, 8, some 1) := by kernel_rfl
theorem Tryz.infoRGLOB : (Tryz.prog.info? 109).map (fun i => (i.size, i.bytes, i.zero.map (fun z => z.cells.size))) = some (5, 32, some 5) := by kernel_rfl
theorem Tryz.infoRELEM : (Tryz.prog.info? 163).map (fun i => (i.size, i.bytes, i.zero.map (fun z => z.cells.size))) = some (2, 32, some 2) := by kernel_rfl
theorem Tryz.infoRINST : (Tryz.prog.info? 176).map (fun i => (i.size, i.bytes, i.zero.map (fun z => z.cells.size))) = some (1, 8, some 1) := by kernel_rfl
section
variable {w : World} {rb B n : Nat} {fl tl ml gl el' dl il : Value} {F : Nat → Value}
set_option maxRecDepth 100000 in
set_option maxHeartbeats 1600000 in
theorem raddf_err (A C : Option Addr) (np c nr d : Nat) (v u : Nat → UInt8) (h : Bool) (s : ByteArray) (i b : Int) (hb : Blk w rb 89 (rCells fl tl ml gl el' dl il)) (hown : Own w B 51 6 AnyV fl n F) (hn : n < 65536) (hA : TSl w A np c v) (hC : TSl w C nr d u) (hbad : badT v np = true ∨ badT u nr = true) :
    Calls Tryz.prog 60 #[.pointer (some ⟨rb, 0, none⟩), .agg #[.slice A np c, .slice C nr d, .bool h, .string s, .int .i64 i, .int .i64 b]] w fun e w' => e = .returned (.tuple #[.int .i64 0, .int .i64 2]) ∧ Kept S0 w w' := by
  obtain ⟨lA, lc, hlv, _, _, _⟩ := hown.out
  obtain ⟨z, hinfo, hzs⟩ := info_ex Tryz.infoFUNC
  have hlv2 := Lib.hid hlv
  subst hlv
  have hka : Kept S0 w (w.alloc (.cells #[.slice A np c, .slice C nr d, .bool h, .string s, .int .i64 i, .int .i64 b] 51)) := ((Kept.refl S0 w).alloc _)
  have hb1 := hka.blk hb (fun x => x)
  have HO := Lib.hid (hown.kept hka (fun _ _ x => x))
  have c1 : (w.alloc (.cells #[.slice A np c, .slice C nr d, .bool h, .string s, .int .i64 i, .int .i64 b] 51)).cell? ⟨rb, 0, none⟩ = some (.slice lA n lc) := hb1.cell 0
  have HB := Lib.hid hb1
  have HK := Lib.hid hka
  have HOL := Lib.hid (show ∀ g, (Value.slice lA n lc).ownBlock = some g → g < w.heap.size from fun g hg => (hown.lt g hg).2)
  have hnn : decide ((65536 : Int) ≤ (n : Int)) = false := decide_eq_false (by omega)
  clear hlv2
  have hX := Blk.new w 51 #[.slice A np c, .slice C nr d, .bool h, .string s, .int .i64 i, .int .i64 b]
  have x0 := hX.cell 0
  have x1 := hX.cell 1
  have HA := Lib.hid (hA.kept hka)
  have HC := Lib.hid (hC.kept hka)
  have HBD := Lib.hid hbad
  clear hb hown hb1 hka hX hA hC hbad hinfo hzs HO HB
  go_enter Tryz.func60, Tryz.ntmps60
  go_wp2_with fail
  refine (rvals_any A np c v _ HA.out.sl (by have := HA.out.sz; omega)).mono ?_
  rintro e w1 ⟨rfl, rfl⟩
  cases hp : badT v np with
  | true =>
    clear hp
    go_wp2_with fail
    go_ret2
    exact ⟨rfl, HK.out⟩
  | false =>
    have HBR := Lib.hid (HBD.out.resolve_left (by rw [hp]; simp))
    clear hp
    go_wp2_with fail
    refine (rvals_any C nr d u _ HC.out.sl (by have := HC.out.sz; omega)).mono ?_
    rintro e w1 ⟨rfl, rfl⟩
    rw [HBR.out]
    go_wp2_with fail
    go_ret2
    exact ⟨rfl, HK.out⟩
set_option maxRecDepth 100000 in
set_option maxHeartbeats 3200000 in
theorem raddf_ok (A C : Option Addr) (np c nr d : Nat) (v u : Nat → UInt8) (h : Bool) (s : ByteArray) (i b : Int) (hb : Blk w rb 89 (rCells fl tl ml gl el' dl il)) (hown : Own w B 51 6 AnyV fl n F) (hn : n < 65536) (hB : B ≤ w.heap.size) (hA : TSl w A np c v) (hC : TSl w C nr d u) (h1 : badT v np = false) (h2 : badT u nr = false) :
    Calls Tryz.prog 60 #[.pointer (some ⟨rb, 0, none⟩), .agg #[.slice A np c, .slice C nr d, .bool h, .string s, .int .i64 i, .int .i64 b]] w fun e w' => e = .returned (.tuple #[.int .i64 (n : Int), .int .i64 0]) ∧ ∃ lv', Blk w' rb 89 (rCells lv' tl ml gl el' dl il) ∧ Own w' B 51 6 AnyV lv' (n + 1) (after (n * 6) F (ecell #[.slice A np c, .slice C nr d, .bool h, .string s, .int .i64 i, .int .i64 b])) ∧ Kept (ST rb fl) w w' ∧ (lv'.ownBlock = (fl).ownBlock ∨ ∃ g, lv'.ownBlock = some g ∧ w.heap.size ≤ g) := by
  obtain ⟨lA, lc, hlv, _, _, _⟩ := hown.out
  obtain ⟨z, hinfo, hzs⟩ := info_ex Tryz.infoFUNC
  have hlv2 := Lib.hid hlv
  subst hlv
  have hka : Kept S0 w (w.alloc (.cells #[.slice A np c, .slice C nr d, .bool h, .string s, .int .i64 i, .int .i64 b] 51)) := ((Kept.refl S0 w).alloc _)
  have hb1 := hka.blk hb (fun x => x)
  have HO := Lib.hid (hown.kept hka (fun _ _ x => x))
  have c1 : (w.alloc (.cells #[.slice A np c, .slice C nr d, .bool h, .string s, .int .i64 i, .int .i64 b] 51)).cell? ⟨rb, 0, none⟩ = some (.slice lA n lc) := hb1.cell 0
  have HB := Lib.hid hb1
  have HK := Lib.hid hka
  have HOL := Lib.hid (show ∀ g, (Value.slice lA n lc).ownBlock = some g → g < w.heap.size from fun g hg => (hown.lt g hg).2)
  have hnn : decide ((65536 : Int) ≤ (n : Int)) = false := decide_eq_false (by omega)
  clear hlv2
  have hX := Blk.new w 51 #[.slice A np c, .slice C nr d, .bool h, .string s, .int .i64 i, .int .i64 b]
  have x0 := hX.cell 0
  have x1 := hX.cell 1
  have x2 := hX.cell 2
  have x3 := hX.cell 3
  have x4 := hX.cell 4
  have x5 := hX.cell 5
  have HX := Lib.hid hX
  have HA := Lib.hid (hA.kept hka)
  have HC := Lib.hid (hC.kept hka)
  have H1 := Lib.hid h1
  have H2 := Lib.hid h2
  clear hb hown hb1 hka hX hA hC h1 h2
  go_enter Tryz.func60, Tryz.ntmps60
  go_wp2_with fail
  refine (rvals_any A np c v _ HA.out.sl (by have := HA.out.sz; omega)).mono ?_
  rintro e w1 ⟨rfl, rfl⟩
  rw [H1.out]
  go_wp2_with fail
  refine (rvals_any C nr d u _ HC.out.sl (by have := HC.out.sz; omega)).mono ?_
  rintro e w1 ⟨rfl, rfl⟩
  rw [H2.out]
  go_wp2_with fail
  generalize hw1 : (w.alloc (.cells #[.slice A np c, .slice C nr d, .bool h, .string s, .int .i64 i, .int .i64 b] 51)) = w1 at *
  generalize hbx : w.heap.size = bx at *
  have hd1 := (Kept.refl S0 w1).drew
  have hbk := hd1.blk HB.out (fun x => x)
  have hol := HOL.out
  have how := HO.out.kept hd1 (fun _ _ x => x)
  have hxk := hd1.blk HX.out (fun x => x)
  have hKD := HK.out.drew
  have hBw : B ≤ w1.drew.heap.size := Nat.le_trans hB (by rw [← hbx]; exact hKD.size)
  have hS : w1.drew.cell? ⟨rb, 0, none⟩ = some (.slice lA n lc) ∧ w1.drew.cell? ⟨bx, 0, none⟩ = some (.slice A np c) ∧ w1.drew.cell? ⟨bx, 1, none⟩ = some (.slice C nr d) ∧ w1.drew.cell? ⟨bx, 2, none⟩ = some (.bool h) ∧ w1.drew.cell? ⟨bx, 3, none⟩ = some (.string s) ∧ w1.drew.cell? ⟨bx, 4, none⟩ = some (.int .i64 i) ∧ w1.drew.cell? ⟨bx, 5, none⟩ = some (.int .i64 b) := ⟨hbk.cell 0, hxk.cell 0, hxk.cell 1, hxk.cell 2, hxk.cell 3, hxk.cell 4, hxk.cell 5⟩
  refine wp_region_R (fun w' => w'.cell? ⟨rb, 0, none⟩ = some (.slice lA n lc) ∧ w'.cell? ⟨bx, 0, none⟩ = some (.slice A np c) ∧ w'.cell? ⟨bx, 1, none⟩ = some (.slice C nr d) ∧ w'.cell? ⟨bx, 2, none⟩ = some (.bool h) ∧ w'.cell? ⟨bx, 3, none⟩ = some (.string s) ∧ w'.cell? ⟨bx, 4, none⟩ = some (.int .i64 i) ∧ w'.cell? ⟨bx, 5, none⟩ = some (.int .i64 b)) [10] (by kernel_rfl) ?_
  clear hd1 HB HO HK hw1
  generalize w1.drew = w2 at *
  clear x0 x1 x2 x3 x4 x5 c1 HX HA HC
  (first | (refine tkR 0 (v := ?_) rfl hS ⟨by rfl, ?_⟩ ?_; rotate_left; intro w h; (try dsimp only at h); first | (go_simp; done) | (go_simp; with_reducible rfl)) | refine skR 0 rfl (fun _ => hS) (by rfl) ?_); simp only [zq1, zq2, Act.put, zq4, zq5, zq6]
  (first | (refine tkR 1 (v := ?_) rfl hS ⟨by rfl, ?_⟩ ?_; rotate_left; intro w h; (try dsimp only at h); first | (go_simp; done) | (go_simp; with_reducible rfl)) | refine skR 1 rfl (fun _ => hS) (by rfl) ?_); simp only [zq1, zq2, zq3, Act.put, zq4, zq5, zq6]
  (first | (refine tkR 2 (v := ?_) rfl hS ⟨by rfl, ?_⟩ ?_; rotate_left; intro w h; (try dsimp only at h); first | (go_simp; done) | (go_simp; with_reducible rfl)) | refine skR 2 rfl (fun _ => hS) (by rfl) ?_); simp only [zq1, zq2, zq3, Act.put, zq4, zq5, zq6]
  (first | (refine tkR 3 (v := ?_) rfl hS ⟨by rfl, ?_⟩ ?_; rotate_left; intro w h; (try dsimp only at h); first | (go_simp; done) | (go_simp; with_reducible rfl)) | refine skR 3 rfl (fun _ => hS) (by rfl) ?_); simp only [zq1, zq2, zq3, Act.put, zq4, zq5, zq6]
  (first | (refine tkR 4 (v := ?_) rfl hS ⟨by rfl, ?_⟩ ?_; rotate_left; intro w h; (try dsimp only at h); first | (go_simp; done) | (go_simp; with_reducible rfl)) | refine skR 4 rfl (fun _ => hS) (by rfl) ?_); simp only [zq1, zq2, zq3, Act.put, zq4, zq5, zq6]
  (first | (refine tkR 5 (v := ?_) rfl hS ⟨by rfl, ?_⟩ ?_; rotate_left; intro w h; (try dsimp only at h); first | (go_simp; done) | (go_simp; with_reducible rfl)) | refine skR 5 rfl (fun _ => hS) (by rfl) ?_); simp only [zq1, zq2, zq3, Act.put, zq4, zq5, zq6]
  have hone : ∀ j, j < 1 * 6 → (ecell #[.slice A np c, .slice C nr d, .bool h, .string s, .int .i64 i, .int .i64 b] j).oneCell' = true := fun i hi => by
    match i, hi with
    | 0, _ => exact rfl
    | 1, _ => exact rfl
    | 2, _ => exact rfl
    | 3, _ => exact rfl
    | 4, _ => exact rfl
    | 5, _ => exact rfl
  refine wpAnyR_one 6 rfl (by kernel_rfl) (fun K hK => ?_)
  go_simp
  have hal : Kept S0 w2 (w2.alloc (.cells #[.slice A np c, .slice C nr d, .bool h, .string s, .int .i64 i, .int .i64 b] 51)) := (Kept.refl S0 w2).alloc _
  have hnw := Blk.new w2 51 #[.slice A np c, .slice C nr d, .bool h, .string s, .int .i64 i, .int .i64 b]
  have hba := hal.blk hbk (fun x => x)
  have hoa := how.kept hal (fun _ _ x => x)
  have hBa : B ≤ (w2.alloc (.cells #[.slice A np c, .slice C nr d, .bool h, .string s, .int .i64 i, .int .i64 b] 51)).heap.size := Nat.le_trans hBw hal.size
  have hSa : (w2.alloc (.cells #[.slice A np c, .slice C nr d, .bool h, .string s, .int .i64 i, .int .i64 b] 51)).cell? ⟨rb, 0, none⟩ = some (.slice lA n lc) ∧ (w2.alloc (.cells #[.slice A np c, .slice C nr d, .bool h, .string s, .int .i64 i, .int .i64 b] 51)).cell? ⟨bx, 0, none⟩ = some (.slice A np c) ∧ (w2.alloc (.cells #[.slice A np c, .slice C nr d, .bool h, .string s, .int .i64 i, .int .i64 b] 51)).cell? ⟨bx, 1, none⟩ = some (.slice C nr d) ∧ (w2.alloc (.cells #[.slice A np c, .slice C nr d, .bool h, .string s, .int .i64 i, .int .i64 b] 51)).cell? ⟨bx, 2, none⟩ = some (.bool h) ∧ (w2.alloc (.cells #[.slice A np c, .slice C nr d, .bool h, .string s, .int .i64 i, .int .i64 b] 51)).cell? ⟨bx, 3, none⟩ = some (.string s) ∧ (w2.alloc (.cells #[.slice A np c, .slice C nr d, .bool h, .string s, .int .i64 i, .int .i64 b] 51)).cell? ⟨bx, 4, none⟩ = some (.int .i64 i) ∧ (w2.alloc (.cells #[.slice A np c, .slice C nr d, .bool h, .string s, .int .i64 i, .int .i64 b] 51)).cell? ⟨bx, 5, none⟩ = some (.int .i64 b) := ⟨hba.cell 0, (hxk.alloc _).cell 0, (hxk.alloc _).cell 1, (hxk.alloc _).cell 2, (hxk.alloc _).cell 3, (hxk.alloc _).cell 4, (hxk.alloc _).cell 5⟩
  have hsl : Sl (w2.alloc (.cells #[.slice A np c, .slice C nr d, .bool h, .string s, .int .i64 i, .int .i64 b] 51)) (some ⟨w2.heap.size, 0, none⟩) (1 * 6) (ecell #[.slice A np c, .slice C nr d, .bool h, .string s, .int .i64 i, .int .i64 b]) := fun _ => ⟨w2.heap.size, 0, rfl, fun i hi => by
    rw [Nat.zero_add]
    match i, hi with
    | 0, _ => exact hnw.cell 0
    | 1, _ => exact hnw.cell 1
    | 2, _ => exact hnw.cell 2
    | 3, _ => exact hnw.cell 3
    | 4, _ => exact hnw.cell 4
    | 5, _ => exact hnw.cell 5
    ⟩
  have hxa := hxk.alloc (.cells #[.slice A np c, .slice C nr d, .bool h, .string s, .int .i64 i, .int .i64 b] 51)
  refine hK.out _ _ (fun _ => hSa) ?_
  clear hK K
  generalize w2.heap.size = nb at *
  generalize (w2.alloc (.cells #[.slice A np c, .slice C nr d, .bool h, .string s, .int .i64 i, .int .i64 b] 51)) = wa at *
  refine wpAnyR_one 7 rfl (by kernel_rfl) (fun K hK => ?_)
  refine step_append_all rfl (.tmp 28) (.tmp 30) 81 rfl B 51 z 6 88 Tryz.underlying81 hinfo hzs (by omega) AnyV (fun _ _ => trivial) _ n F rfl hoa (some ⟨nb, 0, none⟩) 1 1 (ecell #[.slice A np c, .slice C nr d, .bool h, .string s, .int .i64 i, .int .i64 b]) rfl hsl (fun h => by cases h) (fun _ _ => trivial) hone (by unfold maxLen; omega) (by omega) hBa ?_
  intro v' w' ha
  obtain ⟨A', c', rfl, _, _, _⟩ := ha.own.out
  have HA := Lib.hid (show Appended wa w' B 51 6 AnyV (.slice lA n lc) (.slice A' (n + 1) c') (n + 1) (after (n * 6) F (ecell #[.slice A np c, .slice C nr d, .bool h, .string s, .int .i64 i, .int .i64 b])) 1 from ha)
  clear ha
  have hbb : Blk w' rb 89 _ := (HA.out.grown.block rb hba.lt (fun e => hoa.ne_blk hba (by decide) e.symm)).trans hba
  have hKw : Kept (ST rb (.slice lA n lc)) wa w' := (Kept.refl _ wa).grown ⟨HA.out.grown.os, HA.out.grown.tape, HA.out.grown.output, HA.out.grown.size, HA.out.grown.block⟩ (fun g hg => .inl (.inr hg))
  have hxb : Blk w' bx 51 _ := (hKw.blk (hxa) (fun e => by
    rcases e with e | e
    · exact Blk.ne_ hba hxa (by decide) e.symm
    · have h1 := hol bx e; omega))
  have hSb : w'.cell? ⟨rb, 0, none⟩ = some (.slice lA n lc) ∧ w'.cell? ⟨bx, 0, none⟩ = some (.slice A np c) ∧ w'.cell? ⟨bx, 1, none⟩ = some (.slice C nr d) ∧ w'.cell? ⟨bx, 2, none⟩ = some (.bool h) ∧ w'.cell? ⟨bx, 3, none⟩ = some (.string s) ∧ w'.cell? ⟨bx, 4, none⟩ = some (.int .i64 i) ∧ w'.cell? ⟨bx, 5, none⟩ = some (.int .i64 b) := ⟨hbb.cell 0, hxb.cell 0, hxb.cell 1, hxb.cell 2, hxb.cell 3, hxb.cell 4, hxb.cell 5⟩
  refine hK.out _ _ (fun _ => hSb) ?_
  clear hK K
  refine wpAnyR_late 8 (v := ?_) rfl (by kernel_rfl) (by kernel_rfl) (by kernel_rfl) (by kernel_rfl) (fun _ _ _ h => h) (fun _ => hSb) ⟨by rfl, ?_⟩ ?_
  rotate_left; (intro w; first | (go_simp; done) | (go_simp; with_reducible rfl))
  simp only [zq1, zq2, zq3, Act.put, zq4, zq5, zq6]
  refine wpAnyR_late 9 (v := ?_) rfl (by kernel_rfl) (by kernel_rfl) (by kernel_rfl) (by kernel_rfl) (fun _ _ _ h => h) (fun _ => hSb) ⟨by rfl, ?_⟩ ?_
  rotate_left; (intro w; first | (go_simp; done) | (go_simp; with_reducible rfl))
  simp only [zq1, zq2, zq3, Act.put, zq4, zq5, zq6]
  have y2 := hbb.frozen 0
  have x2 : w'.cell? ⟨rb, 0, none⟩ = some (.slice lA n lc) := hbb.cell 0
  refine wpAnyR_one 10 rfl (by kernel_rfl) (fun K hK => ?_)
  go_simp
  refine hK.out _ _ (fun h => absurd h (by decide)) ?_
  clear hK K
  refine wpAnyR_done (by kernel_rfl) ?_ _
  have hbf : Blk (w'.setCell ⟨rb, 0, none⟩ (.slice A' (n + 1) c')) rb 89 (rCells (.slice A' (n + 1) c') tl ml gl el' dl il) := hbb.set_ 0 _
  have hof : Own (w'.setCell ⟨rb, 0, none⟩ (.slice A' (n + 1) c')) B 51 6 AnyV (.slice A' (n + 1) c') (n + 1) (after (n * 6) F (ecell #[.slice A np c, .slice C nr d, .bool h, .string s, .int .i64 i, .int .i64 b])) := HA.out.own.kept ((Kept.refl (S1 rb) w').setCell (p := ⟨rb, 0, none⟩) (.inl rfl) _) (fun g hg e => HA.out.own.ne_blk hbb (by decide) (by have e' : g = rb := e; rw [← e']; exact hg))
  have hkf : Kept (ST rb (.slice lA n lc)) w (w'.setCell ⟨rb, 0, none⟩ (.slice A' (n + 1) c')) := ((((hKD).then0 hal).of0 _).trans hKw).setCell (p := ⟨rb, 0, none⟩) (.inl (.inl rfl)) _
  have hlf : (Value.slice A' (n + 1) c').ownBlock = (Value.slice lA n lc).ownBlock ∨ ∃ g, (Value.slice A' (n + 1) c').ownBlock = some g ∧ w.heap.size ≤ g := HA.out.block.imp id (fun e => ⟨_, e, (hKD.then0 hal).size⟩)
  have HF1 := Lib.hid hbf
  have HF2 := Lib.hid hof
  have HF3 := Lib.hid hkf
  have HF4 := Lib.hid hlf
  have un : IntKind.i64.wrap ((n : Int) + 1 - 1) = (n : Int) := by rw [IntWalk.i64_in _ (by omega)]; omega
  have x3 : (w'.setCell ⟨rb, 0, none⟩ (.slice A' (n + 1) c')).cell? ⟨rb, 0, none⟩ = some (.slice A' (n + 1) c') := hbf.cell 0
  clear hbf hof hkf hlf hbb hSb hS hSa HA hKw hoa hba hxa hxb hxk hal how hbk hKD y2 x2 hnw hsl H1 H2
  go_wp2_with fail
  go_ret2
  refine ⟨by simp, _, HF1.out, HF2.out, HF3.out, HF4.out⟩
set_option maxRecDepth 100000 in
set_option maxHeartbeats 1600000 in
theorem raddg_err (gt : Int) (gm : Bool) (x : V3) (hx : 0 ≤ x.lo ∧ x.lo ≤ 18446744073709551615) (hb : Blk w rb 89 (rCells fl tl ml gl el' dl il)) (hown : Own w B 109 5 AnyV gl n F) (hn : n < 65536) (hE : globB gt x = false) :
    Calls Tryz.prog 66 #[.pointer (some ⟨rb, 0, none⟩), .agg #[.int .u8 gt, .bool gm], .agg #[.int .u8 x.t, .int .u64 x.lo, .int .u64 x.hi]] w fun e w' => e = .returned (.tuple #[.int .i64 0, .int .i64 2]) ∧ Kept S0 w w' := by
  obtain ⟨xt, xl, xh⟩ := x
  dsimp only at hx
  obtain ⟨lA, lc, hlv, _, _, _⟩ := hown.out
  obtain ⟨z, hinfo, hzs⟩ := info_ex Tryz.infoRGLOB
  have hlv2 := Lib.hid hlv
  subst hlv
  have hka : Kept S0 w ((w.alloc (.cells #[.int .u8 gt, .bool gm] 33)).alloc (.cells #[.int .u8 xt, .int .u64 xl, .int .u64 xh] 65)) := (((Kept.refl S0 w).alloc _).alloc _)
  have hb1 := hka.blk hb (fun x => x)
  have HO := Lib.hid (hown.kept hka (fun _ _ x => x))
  have c1 : ((w.alloc (.cells #[.int .u8 gt, .bool gm] 33)).alloc (.cells #[.int .u8 xt, .int .u64 xl, .int .u64 xh] 65)).cell? ⟨rb, 3, none⟩ = some (.slice lA n lc) := hb1.cell 3
  have HB := Lib.hid hb1
  have HK := Lib.hid hka
  have HOL := Lib.hid (show ∀ g, (Value.slice lA n lc).ownBlock = some g → g < w.heap.size from fun g hg => (hown.lt g hg).2)
  have hnn : decide ((65536 : Int) ≤ (n : Int)) = false := decide_eq_false (by omega)
  clear hlv2
  have hX0 := (Blk.new w 33 #[.int .u8 gt, .bool gm]).alloc (.cells #[.int .u8 xt, .int .u64 xl, .int .u64 xh] 65)
  have hX1 := Blk.new1 w (.cells #[.int .u8 gt, .bool gm] 33) 65 #[.int .u8 xt, .int .u64 xl, .int .u64 xh]
  have x0 := hX0.cell 0
  have x1 := hX0.cell 1
  have z0 := hX1.cell 0
  have z1 := hX1.cell 1
  have z2 := hX1.cell 2
  have HHAS := Lib.hid (fun w => rhas_any xt xl xh w hx.1 hx.2)
  have hcase : (xt == gt) = false ∨ (xt == gt) = true ∧ hasB xt xl xh = false := by
    unfold globB at hE; dsimp only at hE; cases h : (xt == gt) with
    | false => exact .inl rfl
    | true => rw [h] at hE; exact .inr ⟨rfl, by simpa using hE⟩
  clear hb hown hb1 hka hX0 hX1 hE hinfo hzs HO HB
  rcases hcase with ht | ⟨ht, hh⟩
  · have htt : (xt != gt) = true := by unfold bne; rw [ht]; rfl
    clear ht
    go_enter Tryz.func66, Tryz.ntmps66
    go_wp2_with fail
    go_ret2
    exact ⟨rfl, HK.out⟩
  · have htt : (xt != gt) = false := by unfold bne; rw [ht]; rfl
    have HH := Lib.hid hh
    clear ht hh
    go_enter Tryz.func66, Tryz.ntmps66
    go_wp2_with fail
    refine (HHAS.out _).mono ?_
    rintro e w2 ⟨rfl, hk2⟩
    rw [HH.out]
    have HK2 := Lib.hid (HK.out.then0 hk2)
    clear hk2
    go_wp2_with fail
    go_ret2
    exact ⟨rfl, HK2.out⟩
set_option maxRecDepth 100000 in
set_option maxHeartbeats 3200000 in
theorem raddg_ok (gt : Int) (gm : Bool) (x : V3) (hx : 0 ≤ x.lo ∧ x.lo ≤ 18446744073709551615) (hb : Blk w rb 89 (rCells fl tl ml gl el' dl il)) (hown : Own w B 109 5 AnyV gl n F) (hn : n < 65536) (hB : B ≤ w.heap.size) (hE : globB gt x = true) :
    Calls Tryz.prog 66 #[.pointer (some ⟨rb, 0, none⟩), .agg #[.int .u8 gt, .bool gm], .agg #[.int .u8 x.t, .int .u64 x.lo, .int .u64 x.hi]] w fun e w' => e = .returned (.tuple #[.int .i64 (n : Int), .int .i64 0]) ∧ ∃ lv', Blk w' rb 89 (rCells fl tl ml lv' el' dl il) ∧ Own w' B 109 5 AnyV lv' (n + 1) (after (n * 5) F (ecell #[.int .u8 gt, .bool gm, .int .u8 x.t, .int .u64 x.lo, .int .u64 x.hi])) ∧ Kept (ST rb gl) w w' ∧ (lv'.ownBlock = (gl).ownBlock ∨ ∃ g, lv'.ownBlock = some g ∧ w.heap.size ≤ g) := by
  obtain ⟨xt, xl, xh⟩ := x
  dsimp only at hx
  obtain ⟨lA, lc, hlv, _, _, _⟩ := hown.out
  obtain ⟨z, hinfo, hzs⟩ := info_ex Tryz.infoRGLOB
  have hlv2 := Lib.hid hlv
  subst hlv
  have hka : Kept S0 w ((w.alloc (.cells #[.int .u8 gt, .bool gm] 33)).alloc (.cells #[.int .u8 xt, .int .u64 xl, .int .u64 xh] 65)) := (((Kept.refl S0 w).alloc _).alloc _)
  have hb1 := hka.blk hb (fun x => x)
  have HO := Lib.hid (hown.kept hka (fun _ _ x => x))
  have c1 : ((w.alloc (.cells #[.int .u8 gt, .bool gm] 33)).alloc (.cells #[.int .u8 xt, .int .u64 xl, .int .u64 xh] 65)).cell? ⟨rb, 3, none⟩ = some (.slice lA n lc) := hb1.cell 3
  have HB := Lib.hid hb1
  have HK := Lib.hid hka
  have HOL := Lib.hid (show ∀ g, (Value.slice lA n lc).ownBlock = some g → g < w.heap.size from fun g hg => (hown.lt g hg).2)
  have hnn : decide ((65536 : Int) ≤ (n : Int)) = false := decide_eq_false (by omega)
  clear hlv2
  have hX0 := (Blk.new w 33 #[.int .u8 gt, .bool gm]).alloc (.cells #[.int .u8 xt, .int .u64 xl, .int .u64 xh] 65)
  have hX1 := Blk.new1 w (.cells #[.int .u8 gt, .bool gm] 33) 65 #[.int .u8 xt, .int .u64 xl, .int .u64 xh]
  have x0 := hX0.cell 0
  have x1 := hX0.cell 1
  have z0 := hX1.cell 0
  have z1 := hX1.cell 1
  have z2 := hX1.cell 2
  have HHAS := Lib.hid (fun w => rhas_any xt xl xh w hx.1 hx.2)
  have hcase : (xt == gt) = true ∧ hasB xt xl xh = true := by unfold globB at hE; simpa using hE
  have htt : (xt != gt) = false := by unfold bne; rw [hcase.1]; rfl
  have HH := Lib.hid hcase.2
  have HX0 := Lib.hid hX0
  have HX1 := Lib.hid hX1
  clear hb hown hb1 hka hX0 hX1 hE hcase
  go_enter Tryz.func66, Tryz.ntmps66
  go_wp2_with fail
  refine (HHAS.out _).mono ?_
  rintro e w5 ⟨rfl, hk5⟩
  rw [HH.out]
  have y0 := keep0 hk5 x0
  have y1 := keep0 hk5 x1
  have v0 := keep0 hk5 z0
  have v1 := keep0 hk5 z1
  have v2 := keep0 hk5 z2
  have y3 := keep0 hk5 c1
  have HB5 := Lib.hid (hk5.blk HB.out (fun x => x))
  have HO5 := Lib.hid (HO.out.kept hk5 (fun _ _ x => x))
  have HX5 := Lib.hid (hk5.blk HX0.out (fun x => x))
  have HX6 := Lib.hid (hk5.blk HX1.out (fun x => x))
  have HK5 := Lib.hid (HK.out.then0 hk5)
  clear x0 x1 z0 z1 z2 c1 hk5 HX0 HX1 HB HO HK
  go_wp2_with fail
  generalize hbx : w.heap.size = bx at *
  have hd1 := (Kept.refl S0 w5).drew
  have hbk := hd1.blk HB5.out (fun x => x)
  have hol := HOL.out
  have how := HO5.out.kept hd1 (fun _ _ x => x)
  have hx0 := hd1.blk HX5.out (fun x => x)
  have hx1 := hd1.blk HX6.out (fun x => x)
  have hKD := HK5.out.drew
  have hBw : B ≤ w5.drew.heap.size := Nat.le_trans hB (by rw [← hbx]; exact hKD.size)
  have hS : w5.drew.cell? ⟨rb, 3, none⟩ = some (.slice lA n lc) ∧ w5.drew.cell? ⟨bx, 0, none⟩ = some (.int .u8 gt) ∧ w5.drew.cell? ⟨bx, 1, none⟩ = some (.bool gm) ∧ w5.drew.cell? ⟨bx + 1, 0, none⟩ = some (.int .u8 xt) ∧ w5.drew.cell? ⟨bx + 1, 1, none⟩ = some (.int .u64 xl) ∧ w5.drew.cell? ⟨bx + 1, 2, none⟩ = some (.int .u64 xh) := ⟨hbk.cell 3, hx0.cell 0, hx0.cell 1, hx1.cell 0, hx1.cell 1, hx1.cell 2⟩
  refine wp_region_R (fun w' => w'.cell? ⟨rb, 3, none⟩ = some (.slice lA n lc) ∧ w'.cell? ⟨bx, 0, none⟩ = some (.int .u8 gt) ∧ w'.cell? ⟨bx, 1, none⟩ = some (.bool gm) ∧ w'.cell? ⟨bx + 1, 0, none⟩ = some (.int .u8 xt) ∧ w'.cell? ⟨bx + 1, 1, none⟩ = some (.int .u64 xl) ∧ w'.cell? ⟨bx + 1, 2, none⟩ = some (.int .u64 xh)) [12] (by kernel_rfl) ?_
  clear hd1 HB5 HO5 HK5
  generalize w5.drew = w2 at *
  clear y0 y1 y3 v0 v1 v2 HX5 HX6 HHAS HH
  (first | (refine tkR 0 (v := ?_) rfl hS ⟨by rfl, ?_⟩ ?_; rotate_left; intro w h; (try dsimp only at h); first | (go_simp; done) | (go_simp; with_reducible rfl)) | refine skR 0 rfl (fun _ => hS) (by rfl) ?_); simp only [zq1, zq2, Act.put, zq4, zq5, zq6]
  (first | (refine tkR 1 (v := ?_) rfl hS ⟨by rfl, ?_⟩ ?_; rotate_left; intro w h; (try dsimp only at h); first | (go_simp; done) | (go_simp; with_reducible rfl)) | refine skR 1 rfl (fun _ => hS) (by rfl) ?_); simp only [zq1, zq2, zq3, Act.put, zq4, zq5, zq6]
  (first | (refine tkR 2 (v := ?_) rfl hS ⟨by rfl, ?_⟩ ?_; rotate_left; intro w h; (try dsimp only at h); first | (go_simp; done) | (go_simp; with_reducible rfl)) | refine skR 2 rfl (fun _ => hS) (by rfl) ?_); simp only [zq1, zq2, zq3, Act.put, zq4, zq5, zq6]
  (first | (refine tkR 3 (v := ?_) rfl hS ⟨by rfl, ?_⟩ ?_; rotate_left; intro w h; (try dsimp only at h); first | (go_simp; done) | (go_simp; with_reducible rfl)) | refine skR 3 rfl (fun _ => hS) (by rfl) ?_); simp only [zq1, zq2, zq3, Act.put, zq4, zq5, zq6]
  (first | (refine tkR 4 (v := ?_) rfl hS ⟨by rfl, ?_⟩ ?_; rotate_left; intro w h; (try dsimp only at h); first | (go_simp; done) | (go_simp; with_reducible rfl)) | refine skR 4 rfl (fun _ => hS) (by rfl) ?_); simp only [zq1, zq2, zq3, Act.put, zq4, zq5, zq6]
  (first | (refine tkR 5 (v := ?_) rfl hS ⟨by rfl, ?_⟩ ?_; rotate_left; intro w h; (try dsimp only at h); first | (go_simp; done) | (go_simp; with_reducible rfl)) | refine skR 5 rfl (fun _ => hS) (by rfl) ?_); simp only [zq1, zq2, zq3, Act.put, zq4, zq5, zq6]
  (first | (refine tkR 6 (v := ?_) rfl hS ⟨by rfl, ?_⟩ ?_; rotate_left; intro w h; (try dsimp only at h); first | (go_simp; done) | (go_simp; with_reducible rfl)) | refine skR 6 rfl (fun _ => hS) (by rfl) ?_); simp only [zq1, zq2, zq3, Act.put, zq4, zq5, zq6]
  (first | (refine tkR 7 (v := ?_) rfl hS ⟨by rfl, ?_⟩ ?_; rotate_left; intro w h; (try dsimp only at h); first | (go_simp; done) | (go_simp; with_reducible rfl)) | refine skR 7 rfl (fun _ => hS) (by rfl) ?_); simp only [zq1, zq2, zq3, Act.put, zq4, zq5, zq6]
  have hone : ∀ j, j < 1 * 5 → (ecell #[.int .u8 gt, .bool gm, .int .u8 xt, .int .u64 xl, .int .u64 xh] j).oneCell' = true := fun i hi => by
    match i, hi with
    | 0, _ => exact rfl
    | 1, _ => exact rfl
    | 2, _ => exact rfl
    | 3, _ => exact rfl
    | 4, _ => exact rfl
  refine wpAnyR_one 8 rfl (by kernel_rfl) (fun K hK => ?_)
  go_simp
  have hal : Kept S0 w2 (w2.alloc (.cells #[.int .u8 gt, .bool gm, .int .u8 xt, .int .u64 xl, .int .u64 xh] 109)) := (Kept.refl S0 w2).alloc _
  have hnw := Blk.new w2 109 #[.int .u8 gt, .bool gm, .int .u8 xt, .int .u64 xl, .int .u64 xh]
  have hba := hal.blk hbk (fun x => x)
  have hoa := how.kept hal (fun _ _ x => x)
  have hBa : B ≤ (w2.alloc (.cells #[.int .u8 gt, .bool gm, .int .u8 xt, .int .u64 xl, .int .u64 xh] 109)).heap.size := Nat.le_trans hBw hal.size
  have hSa : (w2.alloc (.cells #[.int .u8 gt, .bool gm, .int .u8 xt, .int .u64 xl, .int .u64 xh] 109)).cell? ⟨rb, 3, none⟩ = some (.slice lA n lc) ∧ (w2.alloc (.cells #[.int .u8 gt, .bool gm, .int .u8 xt, .int .u64 xl, .int .u64 xh] 109)).cell? ⟨bx, 0, none⟩ = some (.int .u8 gt) ∧ (w2.alloc (.cells #[.int .u8 gt, .bool gm, .int .u8 xt, .int .u64 xl, .int .u64 xh] 109)).cell? ⟨bx, 1, none⟩ = some (.bool gm) ∧ (w2.alloc (.cells #[.int .u8 gt, .bool gm, .int .u8 xt, .int .u64 xl, .int .u64 xh] 109)).cell? ⟨bx + 1, 0, none⟩ = some (.int .u8 xt) ∧ (w2.alloc (.cells #[.int .u8 gt, .bool gm, .int .u8 xt, .int .u64 xl, .int .u64 xh] 109)).cell? ⟨bx + 1, 1, none⟩ = some (.int .u64 xl) ∧ (w2.alloc (.cells #[.int .u8 gt, .bool gm, .int .u8 xt, .int .u64 xl, .int .u64 xh] 109)).cell? ⟨bx + 1, 2, none⟩ = some (.int .u64 xh) := ⟨hba.cell 3, (hx0.alloc _).cell 0, (hx0.alloc _).cell 1, (hx1.alloc _).cell 0, (hx1.alloc _).cell 1, (hx1.alloc _).cell 2⟩
  have hsl : Sl (w2.alloc (.cells #[.int .u8 gt, .bool gm, .int .u8 xt, .int .u64 xl, .int .u64 xh] 109)) (some ⟨w2.heap.size, 0, none⟩) (1 * 5) (ecell #[.int .u8 gt, .bool gm, .int .u8 xt, .int .u64 xl, .int .u64 xh]) := fun _ => ⟨w2.heap.size, 0, rfl, fun i hi => by
    rw [Nat.zero_add]
    match i, hi with
    | 0, _ => exact hnw.cell 0
    | 1, _ => exact hnw.cell 1
    | 2, _ => exact hnw.cell 2
    | 3, _ => exact hnw.cell 3
    | 4, _ => exact hnw.cell 4
    ⟩
  have hxa0 := hx0.alloc (.cells #[.int .u8 gt, .bool gm, .int .u8 xt, .int .u64 xl, .int .u64 xh] 109)
  have hxa1 := hx1.alloc (.cells #[.int .u8 gt, .bool gm, .int .u8 xt, .int .u64 xl, .int .u64 xh] 109)
  refine hK.out _ _ (fun _ => hSa) ?_
  clear hK K
  generalize w2.heap.size = nb at *
  generalize (w2.alloc (.cells #[.int .u8 gt, .bool gm, .int .u8 xt, .int .u64 xl, .int .u64 xh] 109)) = wa at *
  refine wpAnyR_one 9 rfl (by kernel_rfl) (fun K hK => ?_)
  refine step_append_all rfl (.tmp 28) (.tmp 32) 84 rfl B 109 z 5 32 Tryz.underlying84 hinfo hzs (by omega) AnyV (fun _ _ => trivial) _ n F rfl hoa (some ⟨nb, 0, none⟩) 1 1 (ecell #[.int .u8 gt, .bool gm, .int .u8 xt, .int .u64 xl, .int .u64 xh]) rfl hsl (fun h => by cases h) (fun _ _ => trivial) hone (by unfold maxLen; omega) (by omega) hBa ?_
  intro v' w' ha
  obtain ⟨A', c', rfl, _, _, _⟩ := ha.own.out
  have HA := Lib.hid (show Appended wa w' B 109 5 AnyV (.slice lA n lc) (.slice A' (n + 1) c') (n + 1) (after (n * 5) F (ecell #[.int .u8 gt, .bool gm, .int .u8 xt, .int .u64 xl, .int .u64 xh])) 1 from ha)
  clear ha
  have hbb : Blk w' rb 89 _ := (HA.out.grown.block rb hba.lt (fun e => hoa.ne_blk hba (by decide) e.symm)).trans hba
  have hKw : Kept (ST rb (.slice lA n lc)) wa w' := (Kept.refl _ wa).grown ⟨HA.out.grown.os, HA.out.grown.tape, HA.out.grown.output, HA.out.grown.size, HA.out.grown.block⟩ (fun g hg => .inl (.inr hg))
  have hxb0 : Blk w' bx 33 _ := hKw.blk hxa0 (fun e => by
    rcases e with e | e
    · exact Blk.ne_ hba hxa0 (by decide) e.symm
    · have h1 := hol bx e; omega)
  have hxb1 : Blk w' (bx + 1) 65 _ := hKw.blk hxa1 (fun e => by
    rcases e with e | e
    · exact Blk.ne_ hba hxa1 (by decide) e.symm
    · have h1 := hol (bx + 1) e; omega)
  have hSb : w'.cell? ⟨rb, 3, none⟩ = some (.slice lA n lc) ∧ w'.cell? ⟨bx, 0, none⟩ = some (.int .u8 gt) ∧ w'.cell? ⟨bx, 1, none⟩ = some (.bool gm) ∧ w'.cell? ⟨bx + 1, 0, none⟩ = some (.int .u8 xt) ∧ w'.cell? ⟨bx + 1, 1, none⟩ = some (.int .u64 xl) ∧ w'.cell? ⟨bx + 1, 2, none⟩ = some (.int .u64 xh) := ⟨hbb.cell 3, hxb0.cell 0, hxb0.cell 1, hxb1.cell 0, hxb1.cell 1, hxb1.cell 2⟩
  refine hK.out _ _ (fun _ => hSb) ?_
  clear hK K
  refine wpAnyR_late 10 (v := ?_) rfl (by kernel_rfl) (by kernel_rfl) (by kernel_rfl) (by kernel_rfl) (fun _ _ _ h => h) (fun _ => hSb) ⟨by rfl, ?_⟩ ?_
  rotate_left; (intro w; first | (go_simp; done) | (go_simp; with_reducible rfl))
  simp only [zq1, zq2, zq3, Act.put, zq4, zq5, zq6]
  refine wpAnyR_late 11 (v := ?_) rfl (by kernel_rfl) (by kernel_rfl) (by kernel_rfl) (by kernel_rfl) (fun _ _ _ h => h) (fun _ => hSb) ⟨by rfl, ?_⟩ ?_
  rotate_left; (intro w; first | (go_simp; done) | (go_simp; with_reducible rfl))
  simp only [zq1, zq2, zq3, Act.put, zq4, zq5, zq6]
  have y2 := hbb.frozen 3
  have x2 : w'.cell? ⟨rb, 3, none⟩ = some (.slice lA n lc) := hbb.cell 3
  refine wpAnyR_one 12 rfl (by kernel_rfl) (fun K hK => ?_)
  go_simp
  refine hK.out _ _ (fun h => absurd h (by decide)) ?_
  clear hK K
  refine wpAnyR_done (by kernel_rfl) ?_ _
  have hbf : Blk (w'.setCell ⟨rb, 3, none⟩ (.slice A' (n + 1) c')) rb 89 (rCells fl tl ml (.slice A' (n + 1) c') el' dl il) := hbb.set_ 3 _
  have hof : Own (w'.setCell ⟨rb, 3, none⟩ (.slice A' (n + 1) c')) B 109 5 AnyV (.slice A' (n + 1) c') (n + 1) (after (n * 5) F (ecell #[.int .u8 gt, .bool gm, .int .u8 xt, .int .u64 xl, .int .u64 xh])) := HA.out.own.kept ((Kept.refl (S1 rb) w').setCell (p := ⟨rb, 3, none⟩) (.inl rfl) _) (fun g hg e => HA.out.own.ne_blk hbb (by decide) (by have e' : g = rb := e; rw [← e']; exact hg))
  have hkf : Kept (ST rb (.slice lA n lc)) w (w'.setCell ⟨rb, 3, none⟩ (.slice A' (n + 1) c')) := ((((hKD).then0 hal).of0 _).trans hKw).setCell (p := ⟨rb, 3, none⟩) (.inl (.inl rfl)) _
  have hlf : (Value.slice A' (n + 1) c').ownBlock = (Value.slice lA n lc).ownBlock ∨ ∃ g, (Value.slice A' (n + 1) c').ownBlock = some g ∧ w.heap.size ≤ g := HA.out.block.imp id (fun e => ⟨_, e, (hKD.then0 hal).size⟩)
  have HF1 := Lib.hid hbf
  have HF2 := Lib.hid hof
  have HF3 := Lib.hid hkf
  have HF4 := Lib.hid hlf
  have un : IntKind.i64.wrap ((n : Int) + 1 - 1) = (n : Int) := by rw [IntWalk.i64_in _ (by omega)]; omega
  have x3 : (w'.setCell ⟨rb, 3, none⟩ (.slice A' (n + 1) c')).cell? ⟨rb, 3, none⟩ = some (.slice A' (n + 1) c') := hbf.cell 3
  clear hbf hof hkf hlf hbb hSb hS hSa HA hKw hoa hba hxa0 hxa1 hxb0 hxb1 hx0 hx1 hal how hbk hKD y2 x2 hnw hsl
  go_wp2_with fail
  go_ret2
  refine ⟨by simp, _, HF1.out, HF2.out, HF3.out, HF4.out⟩
theorem ris20_any (t lo hi el : Int) (w : World) (he : isRefB el = true) : Calls Tryz.prog 99 #[.agg #[.int .u8 t, .int .u64 lo, .int .u64 hi], .int .u8 el] w fun e w' => e = .returned (.bool (fitB t lo hi el)) ∧ Kept S0 w w' :=
  T20.ris_ref t lo hi el w (isRef_or he)
set_option maxRecDepth 100000 in
set_option maxHeartbeats 1600000 in
theorem radde_err (t : Int) (A : Option Addr) (m c : Nat) (v : Nat → V3) (hb : Blk w rb 89 (rCells fl tl ml gl el' dl il)) (hown : Own w B 163 2 AnyV el' n F) (hn : n < 65536) (hA : LSl w 3 24 A m c (vcell v)) (hbad : isRefB t = false ∨ badB v m t = true) :
    Calls Tryz.prog 68 #[.pointer (some ⟨rb, 0, none⟩), .int .u8 t, .slice A m c] w fun e w' => e = .returned (.tuple #[.int .i64 0, .int .i64 2]) ∧ Kept S0 w w' := by
  obtain ⟨lA, lc, hlv, _, _, _⟩ := hown.out
  obtain ⟨z, hinfo, hzs⟩ := info_ex Tryz.infoRELEM
  have hlv2 := Lib.hid hlv
  subst hlv
  have hka : Kept S0 w w := (Kept.refl S0 w)
  have hb1 := hka.blk hb (fun x => x)
  have HO := Lib.hid (hown.kept hka (fun _ _ x => x))
  have c1 : w.cell? ⟨rb, 4, none⟩ = some (.slice lA n lc) := hb1.cell 4
  have HB := Lib.hid hb1
  have HK := Lib.hid hka
  have HOL := Lib.hid (show ∀ g, (Value.slice lA n lc).ownBlock = some g → g < w.heap.size from fun g hg => (hown.lt g hg).2)
  have hnn : decide ((65536 : Int) ≤ (n : Int)) = false := decide_eq_false (by omega)
  clear hlv2
  have HA := Lib.hid hA.sl
  have hm := hA.sm
  have HBD := Lib.hid hbad
  clear hb hown hb1 hka hA hbad hinfo hzs HO HB HK
  cases hr : isRefB t with
  | false =>
    have HR := Lib.hid hr
    clear hr
    go_enter Tryz.func68, Tryz.ntmps68
    go_wp2_with fail
    refine (T20.risref_any t w).mono ?_
    rintro e w1 ⟨rfl, rfl⟩
    rw [show T20.isRefB t = isRefB t from rfl, HR.out]
    go_wp2_with fail
    go_ret2
    exact ⟨rfl, Kept.refl _ _⟩
  | true =>
    have HR := Lib.hid hr
    have HB2 := Lib.hid (HBD.out.resolve_left (by rw [hr]; simp))
    clear hr
    go_enter Tryz.func68, Tryz.ntmps68
    go_wp2_with fail
    refine (T20.risref_any t w).mono ?_
    rintro e w1 ⟨rfl, rfl⟩
    rw [show T20.isRefB t = isRefB t from rfl, HR.out]
    go_wp2_with fail
    go_loopw [8] (fun i wr => ∃ k : Nat, k ≤ m ∧ i = .int .i64 (k : Int) ∧ (∀ j, j < k → fitB (v j).t (v j).lo (v j).hi t = true) ∧ Kept S0 w wr) (fun i _ => m - (intOf i).toNat)
    case atStart => exact ⟨0, by omega, rfl, fun j hj => absurd hj (by omega), Kept.refl S0 w⟩
    case round =>
      obtain ⟨k, hk, rfl, hfit, hkw⟩ := hrel
      by_cases hlt : k < m
      · have hA2 := (HA.out.slb.kept hkw (Nat.le_refl _) (fun _ h => h.elim)).sl
        obtain ⟨b1, o1, hAe, hc⟩ := hA2 (by omega)
        subst hAe
        have d0 : wr.cell? ⟨b1, o1 + k * 3, none⟩ = some (.int .u8 (v k).t) := by rw [← vcell_0]; exact hc _ (by omega)
        have d1 : wr.cell? ⟨b1, o1 + k * 3 + 1, none⟩ = some (.int .u64 (v k).lo) := by rw [← vcell_1, Nat.add_assoc]; exact hc _ (by omega)
        have d2 : wr.cell? ⟨b1, o1 + k * 3 + 2, none⟩ = some (.int .u64 (v k).hi) := by rw [← vcell_2, Nat.add_assoc]; exact hc _ (by omega)
        have HI := Lib.hid (ris20_any (v k).t (v k).lo (v k).hi t wr HR.out)
        have HF := Lib.hid hfit
        have HKW := Lib.hid hkw
        clear hc hfit hkw hA2
        go_wp2_with fail
        refine HI.out.mono ?_
        rintro e w1 ⟨rfl, hk1⟩
        cases hfk : fitB (v k).t (v k).lo (v k).hi t with
        | true =>
          have HFK := Lib.hid hfk
          clear hfk
          go_wp2_with fail
          go_roundw
          case rel => exact ⟨k + 1, by omega, by go_num, fun j hj => by
            rcases Nat.lt_or_ge j k with h | h
            · exact HF.out j h
            · obtain rfl : j = k := by omega
              exact HFK.out, HKW.out.then0 hk1⟩
          case measure => simp [intOf]; omega
        | false =>
          have HFK := Lib.hid hfk
          clear hfk
          go_wp2_with fail
          go_ret2
          exact ⟨rfl, HKW.out.then0 hk1⟩
      · obtain rfl : k = m := by omega
        have hh := HB2.out
        rw [badB_false hfit] at hh
        cases hh
set_option maxRecDepth 100000 in
set_option maxHeartbeats 3200000 in
theorem radde_ok (t : Int) (A : Option Addr) (m c : Nat) (v : Nat → V3) (hb : Blk w rb 89 (rCells fl tl ml gl el' dl il)) (hown : Own w B 163 2 AnyV el' n F) (hn : n < 65536) (hB : B ≤ w.heap.size) (hA : LSl w 3 24 A m c (vcell v)) (hr : isRefB t = true) (hbad : badB v m t = false) :
    Calls Tryz.prog 68 #[.pointer (some ⟨rb, 0, none⟩), .int .u8 t, .slice A m c] w fun e w' => e = .returned (.tuple #[.int .i64 (n : Int), .int .i64 0]) ∧ ∃ yA yc lv', Blk w' rb 89 (rCells fl tl ml gl lv' dl il) ∧ Own w' B 163 2 AnyV lv' (n + 1) (after (n * 2) F (ecell #[.int .u8 t, .slice yA m yc])) ∧ Own w' w.heap.size 65 3 AnyV (.slice yA m yc) m (vcell v) ∧ Kept (ST rb el') w w' ∧ (lv'.ownBlock = (el').ownBlock ∨ ∃ g, lv'.ownBlock = some g ∧ w.heap.size ≤ g) := by
  obtain ⟨lA, lc, hlv, _, _, _⟩ := hown.out
  obtain ⟨z, hinfo, hzs⟩ := info_ex Tryz.infoRELEM
  have hlv2 := Lib.hid hlv
  subst hlv
  have hka : Kept S0 w w := (Kept.refl S0 w)
  have hb1 := hka.blk hb (fun x => x)
  have HO := Lib.hid (hown.kept hka (fun _ _ x => x))
  have c1 : w.cell? ⟨rb, 4, none⟩ = some (.slice lA n lc) := hb1.cell 4
  have HB := Lib.hid hb1
  have HK := Lib.hid hka
  have HOL := Lib.hid (show ∀ g, (Value.slice lA n lc).ownBlock = some g → g < w.heap.size from fun g hg => (hown.lt g hg).2)
  have hnn : decide ((65536 : Int) ≤ (n : Int)) = false := decide_eq_false (by omega)
  clear hlv2
  have HA := Lib.hid hA
  have hm := hA.sm
  have hrb := hb.lt
  have HR := Lib.hid hr
  have HBD := Lib.hid hbad
  clear hb hown hb1 hka hA hbad hr
  go_enter Tryz.func68, Tryz.ntmps68
  go_wp2_with fail
  refine (T20.risref_any t w).mono ?_
  rintro e w1 ⟨rfl, rfl⟩
  rw [show T20.isRefB t = isRefB t from rfl, HR.out]
  go_wp2_with fail
  go_loopw [8] (fun i wr => ∃ k : Nat, k ≤ m ∧ i = .int .i64 (k : Int) ∧ (∀ j, j < k → fitB (v j).t (v j).lo (v j).hi t = true) ∧ Kept S0 w wr) (fun i _ => m - (intOf i).toNat)
  case atStart => exact ⟨0, by omega, rfl, fun j hj => absurd hj (by omega), Kept.refl S0 w⟩
  case round =>
    obtain ⟨k, hk, rfl, hfit, hkw⟩ := hrel
    by_cases hlt : k < m
    · have hA2 := (HA.out.sl.slb.kept hkw (Nat.le_refl _) (fun _ h => h.elim)).sl
      obtain ⟨b1, o1, hAe, hc⟩ := hA2 (by omega)
      subst hAe
      have d0 : wr.cell? ⟨b1, o1 + k * 3, none⟩ = some (.int .u8 (v k).t) := by rw [← vcell_0]; exact hc _ (by omega)
      have d1 : wr.cell? ⟨b1, o1 + k * 3 + 1, none⟩ = some (.int .u64 (v k).lo) := by rw [← vcell_1, Nat.add_assoc]; exact hc _ (by omega)
      have d2 : wr.cell? ⟨b1, o1 + k * 3 + 2, none⟩ = some (.int .u64 (v k).hi) := by rw [← vcell_2, Nat.add_assoc]; exact hc _ (by omega)
      have HI := Lib.hid (ris20_any (v k).t (v k).lo (v k).hi t wr HR.out)
      have HF := Lib.hid hfit
      have HKW := Lib.hid hkw
      have HC1 := Lib.hid c1
      clear hc hfit hkw hA2 c1
      go_wp2_with fail
      refine HI.out.mono ?_
      rintro e w1 ⟨rfl, hk1⟩
      cases hfk : fitB (v k).t (v k).lo (v k).hi t with
      | true =>
        have HFK := Lib.hid hfk
        clear hfk
        go_wp2_with fail
        go_roundw
        case rel => exact ⟨k + 1, by omega, by go_num, fun j hj => by
          rcases Nat.lt_or_ge j k with h | h
          · exact HF.out j h
          · obtain rfl : j = k := by omega
            exact HFK.out, HKW.out.then0 hk1⟩
        case measure => simp [intOf]; omega
      | false =>
        exfalso
        have hh := HBD.out
        rw [badB_true hlt hfk] at hh
        cases hh
    · obtain rfl : k = m := by omega
      have HKW := Lib.hid (HK.out.then0 hkw)
      have HB5 := Lib.hid (hkw.blk HB.out (fun x => x))
      have HO5 := Lib.hid (HO.out.kept hkw (fun _ _ x => x))
      have HA5 := Lib.hid (HA.out.kept hkw)
      clear hfit hkw c1 HB HO HK HA
      go_wp2_with fail
      have hd1 := (Kept.refl S0 wr).drew
      have hbk0 := hd1.blk HB5.out (fun x => x)
      have how0 := HO5.out.kept hd1 (fun _ _ x => x)
      have hA6 := HA5.out.kept hd1
      have hKD := HKW.out.drew
      have hol := HOL.out
      have hS0 : wr.drew.cell? ⟨rb, 4, none⟩ = some (.slice lA n lc) := hbk0.cell 4
      refine wp_region_R (fun w' => w'.cell? ⟨rb, 4, none⟩ = some (.slice lA n lc)) [13] (by kernel_rfl) ?_
      clear hd1 HB5 HO5 HA5 HKW
      generalize wr.drew = w6 at *
      (first | (refine tkR 0 (v := ?_) rfl hS0 ⟨by rfl, ?_⟩ ?_; rotate_left; intro w h; (try dsimp only at h); first | (go_simp; done) | (go_simp; with_reducible rfl)) | refine skR 0 rfl (fun _ => hS0) (by rfl) ?_); simp only [zq1, zq2, Act.put, zq4, zq5, zq6]
      (first | (refine tkR 1 (v := ?_) rfl hS0 ⟨by rfl, ?_⟩ ?_; rotate_left; intro w h; (try dsimp only at h); first | (go_simp; done) | (go_simp; with_reducible rfl)) | refine skR 1 rfl (fun _ => hS0) (by rfl) ?_); simp only [zq1, zq2, zq3, Act.put, zq4, zq5, zq6]
      (first | (refine tkR 2 (v := ?_) rfl hS0 ⟨by rfl, ?_⟩ ?_; rotate_left; intro w h; (try dsimp only at h); first | (go_simp; done) | (go_simp; with_reducible rfl)) | refine skR 2 rfl (fun _ => hS0) (by rfl) ?_); simp only [zq1, zq2, zq3, Act.put, zq4, zq5, zq6]
      (first | (refine tkR 3 (v := ?_) rfl hS0 ⟨by rfl, ?_⟩ ?_; rotate_left; intro w h; (try dsimp only at h); first | (go_simp; done) | (go_simp; with_reducible rfl)) | refine skR 3 rfl (fun _ => hS0) (by rfl) ?_); simp only [zq1, zq2, zq3, Act.put, zq4, zq5, zq6]
      (first | (refine tkR 4 (v := ?_) rfl hS0 ⟨by rfl, ?_⟩ ?_; rotate_left; intro w h; (try dsimp only at h); first | (go_simp; done) | (go_simp; with_reducible rfl)) | refine skR 4 rfl (fun _ => hS0) (by rfl) ?_); simp only [zq1, zq2, zq3, Act.put, zq4, zq5, zq6]
      (first | (refine tkR 5 (v := ?_) rfl hS0 ⟨by rfl, ?_⟩ ?_; rotate_left; intro w h; (try dsimp only at h); first | (go_simp; done) | (go_simp; with_reducible rfl)) | refine skR 5 rfl (fun _ => hS0) (by rfl) ?_); simp only [zq1, zq2, zq3, Act.put, zq4, zq5, zq6]
      (first | (refine tkR 6 (v := ?_) rfl hS0 ⟨by rfl, ?_⟩ ?_; rotate_left; intro w h; (try dsimp only at h); first | (go_simp; done) | (go_simp; with_reducible rfl)) | refine skR 6 rfl (fun _ => hS0) (by rfl) ?_); simp only [zq1, zq2, zq3, Act.put, zq4, zq5, zq6]
      refine wpAnyR_one 7 rfl (by kernel_rfl) (fun K hK => ?_)
      go_simp
      go_at_call 100
      refine (copy_v A k c v _ hA6.sl (fun h => (hA6.z h).1) hA6.sm).mono ?_
      rintro e w2 ⟨y, rfl, hy, hk2⟩
      obtain ⟨yA, yc, hye, _, _, _⟩ := hy.out
      subst hye
      have hbk := hk2.blk hbk0 (fun x => x)
      have how := how0.kept hk2 (fun _ _ x => x)
      have hK2 := hKD.then0 hk2
      have hy0 := hy.mono hKD.size
      have hBw : B ≤ w2.heap.size := Nat.le_trans hB hK2.size
      have hS : w2.cell? ⟨rb, 4, none⟩ = some (.slice lA n lc) := hbk.cell 4
      refine hK.out _ _ (fun _ => hS) ?_
      clear hK K hbk0 how0 hA6 hS0 hy hk2 hKD
      (first | (refine tkR 8 (v := ?_) rfl hS ⟨by rfl, ?_⟩ ?_; rotate_left; intro w h; (try dsimp only at h); first | (go_simp; done) | (go_simp; with_reducible rfl)) | refine skR 8 rfl (fun _ => hS) (by rfl) ?_); simp only [zq1, zq2, zq3, Act.put, zq4, zq5, zq6]
      have hone : ∀ j, j < 1 * 2 → (ecell #[.int .u8 t, .slice yA k yc] j).oneCell' = true := fun i hi => by
        match i, hi with
        | 0, _ => exact rfl
        | 1, _ => exact rfl
      refine wpAnyR_one 9 rfl (by kernel_rfl) (fun K hK => ?_)
      go_simp
      have hal : Kept S0 w2 (w2.alloc (.cells #[.int .u8 t, .slice yA k yc] 163)) := (Kept.refl S0 w2).alloc _
      have hnw := Blk.new w2 163 #[.int .u8 t, .slice yA k yc]
      have hba := hal.blk hbk (fun x => x)
      have hoa := how.kept hal (fun _ _ x => x)
      have hbsz : rb < w.heap.size := hrb
      have hBa : B ≤ (w2.alloc (.cells #[.int .u8 t, .slice yA k yc] 163)).heap.size := Nat.le_trans hBw hal.size
      have hSa : (w2.alloc (.cells #[.int .u8 t, .slice yA k yc] 163)).cell? ⟨rb, 4, none⟩ = some (.slice lA n lc) := hba.cell 4
      have hsl : Sl (w2.alloc (.cells #[.int .u8 t, .slice yA k yc] 163)) (some ⟨w2.heap.size, 0, none⟩) (1 * 2) (ecell #[.int .u8 t, .slice yA k yc]) := fun _ => ⟨w2.heap.size, 0, rfl, fun i hi => by
        rw [Nat.zero_add]
        match i, hi with
        | 0, _ => exact hnw.cell 0
        | 1, _ => exact hnw.cell 1
        ⟩
      refine hK.out _ _ (fun _ => hSa) ?_
      clear hK K
      generalize w2.heap.size = nb at *
      generalize (w2.alloc (.cells #[.int .u8 t, .slice yA k yc] 163)) = wa at *
      refine wpAnyR_one 10 rfl (by kernel_rfl) (fun K hK => ?_)
      refine step_append_all rfl (.tmp 35) (.tmp 40) 85 rfl B 163 z 2 32 Tryz.underlying85 hinfo hzs (by omega) AnyV (fun _ _ => trivial) _ n F rfl hoa (some ⟨nb, 0, none⟩) 1 1 (ecell #[.int .u8 t, .slice yA k yc]) rfl hsl (fun h => by cases h) (fun _ _ => trivial) hone (by unfold maxLen; omega) (by omega) hBa ?_
      intro v' w' ha
      obtain ⟨A', c', rfl, _, _, _⟩ := ha.own.out
      have HA := Lib.hid (show Appended wa w' B 163 2 AnyV (.slice lA n lc) (.slice A' (n + 1) c') (n + 1) (after (n * 2) F (ecell #[.int .u8 t, .slice yA k yc])) 1 from ha)
      clear ha
      have hbb : Blk w' rb 89 _ := (HA.out.grown.block rb hba.lt (fun e => hoa.ne_blk hba (by decide) e.symm)).trans hba
      have hKw : Kept (ST rb (.slice lA n lc)) wa w' := (Kept.refl _ wa).grown ⟨HA.out.grown.os, HA.out.grown.tape, HA.out.grown.output, HA.out.grown.size, HA.out.grown.block⟩ (fun g hg => .inl (.inr hg))
      have hyb := (hy0.kept hal (fun _ _ x => x)).kept hKw (fun g hg e => by
        have h1 := (hy0.lt g hg).1
        rcases e with e | e
        · have := hbsz; omega
        · have := hol g e; omega)
      have hSb : w'.cell? ⟨rb, 4, none⟩ = some (.slice lA n lc) := hbb.cell 4
      refine hK.out _ _ (fun _ => hSb) ?_
      clear hK K
      refine wpAnyR_late 11 (v := ?_) rfl (by kernel_rfl) (by kernel_rfl) (by kernel_rfl) (by kernel_rfl) (fun _ _ _ h => h) (fun _ => hSb) ⟨by rfl, ?_⟩ ?_
      rotate_left; (intro w; first | (go_simp; done) | (go_simp; with_reducible rfl))
      simp only [zq1, zq2, zq3, Act.put, zq4, zq5, zq6]
      refine wpAnyR_late 12 (v := ?_) rfl (by kernel_rfl) (by kernel_rfl) (by kernel_rfl) (by kernel_rfl) (fun _ _ _ h => h) (fun _ => hSb) ⟨by rfl, ?_⟩ ?_
      rotate_left; (intro w; first | (go_simp; done) | (go_simp; with_reducible rfl))
      simp only [zq1, zq2, zq3, Act.put, zq4, zq5, zq6]
      have y2 := hbb.frozen 4
      have x2 : w'.cell? ⟨rb, 4, none⟩ = some (.slice lA n lc) := hbb.cell 4
      refine wpAnyR_one 13 rfl (by kernel_rfl) (fun K hK => ?_)
      go_simp
      refine hK.out _ _ (fun h => absurd h (by decide)) ?_
      clear hK K
      refine wpAnyR_done (by kernel_rfl) ?_ _
      have hbf : Blk (w'.setCell ⟨rb, 4, none⟩ (.slice A' (n + 1) c')) rb 89 (rCells fl tl ml gl (.slice A' (n + 1) c') dl il) := hbb.set_ 4 _
      have hof : Own (w'.setCell ⟨rb, 4, none⟩ (.slice A' (n + 1) c')) B 163 2 AnyV (.slice A' (n + 1) c') (n + 1) (after (n * 2) F (ecell #[.int .u8 t, .slice yA k yc])) := HA.out.own.kept ((Kept.refl (S1 rb) w').setCell (p := ⟨rb, 4, none⟩) (.inl rfl) _) (fun g hg e => HA.out.own.ne_blk hbb (by decide) (by have e' : g = rb := e; rw [← e']; exact hg))
      have hkf : Kept (ST rb (.slice lA n lc)) w (w'.setCell ⟨rb, 4, none⟩ (.slice A' (n + 1) c')) := (((hK2.then0 hal).of0 _).trans hKw).setCell (p := ⟨rb, 4, none⟩) (.inl (.inl rfl)) _
      have hlf : (Value.slice A' (n + 1) c').ownBlock = (Value.slice lA n lc).ownBlock ∨ ∃ g, (Value.slice A' (n + 1) c').ownBlock = some g ∧ w.heap.size ≤ g := HA.out.block.imp id (fun e => ⟨_, e, (hK2.then0 hal).size⟩)
      have HF5 := Lib.hid (hyb.kept ((Kept.refl (S1 rb) w').setCell (p := ⟨rb, 4, none⟩) (.inl rfl) (.slice A' (n + 1) c')) (fun g hg e => by have h1 := (hy0.lt g hg).1; have e' : g = rb := e; omega))
      have HF1 := Lib.hid hbf
      have HF2 := Lib.hid hof
      have HF3 := Lib.hid hkf
      have HF4 := Lib.hid hlf
      have un : IntKind.i64.wrap ((n : Int) + 1 - 1) = (n : Int) := by rw [IntWalk.i64_in _ (by omega)]; omega
      have x3 : (w'.setCell ⟨rb, 4, none⟩ (.slice A' (n + 1) c')).cell? ⟨rb, 4, none⟩ = some (.slice A' (n + 1) c') := hbf.cell 4
      clear hbf hof hkf hlf hbb hSb hS hSa HA hKw hoa hba hal how hbk hK2 y2 x2 hnw hsl hyb hy0
      go_wp2_with fail
      go_ret2
      refine ⟨by simp, _, _, _, HF1.out, HF2.out, HF5.out, HF3.out, HF4.out⟩
set_option maxRecDepth 100000 in
set_option maxHeartbeats 3200000 in
theorem raddd_ok (A : Option Addr) (m c : Nat) (v : Nat → UInt8) (hb : Blk w rb 89 (rCells fl tl ml gl el' dl il)) (hown : Own w B 71 1 AnyV dl n F) (hn : n < 65536) (hB : B ≤ w.heap.size) (hA : LSl w 1 1 A m c (byteV v)) :
    Calls Tryz.prog 70 #[.pointer (some ⟨rb, 0, none⟩), .slice A m c] w fun e w' => e = .returned (.tuple #[.int .i64 (n : Int), .int .i64 0]) ∧ ∃ yA yc lv', Blk w' rb 89 (rCells fl tl ml gl el' lv' il) ∧ Own w' B 71 1 AnyV lv' (n + 1) (after (n * 1) F (ecell #[.slice yA m yc])) ∧ Own w' w.heap.size 5 1 IsByte (.slice yA m yc) m (byteV v) ∧ Kept (ST rb dl) w w' ∧ (lv'.ownBlock = (dl).ownBlock ∨ ∃ g, lv'.ownBlock = some g ∧ w.heap.size ≤ g) := by
  obtain ⟨lA, lc, hlv, _, _, _⟩ := hown.out
  obtain ⟨z, hinfo, hzs⟩ := info_ex Tryz.infoDATA
  have hlv2 := Lib.hid hlv
  subst hlv
  have hka : Kept S0 w w := (Kept.refl S0 w)
  have hb1 := hka.blk hb (fun x => x)
  have HO := Lib.hid (hown.kept hka (fun _ _ x => x))
  have c1 : w.cell? ⟨rb, 5, none⟩ = some (.slice lA n lc) := hb1.cell 5
  have HB := Lib.hid hb1
  have HK := Lib.hid hka
  have HOL := Lib.hid (show ∀ g, (Value.slice lA n lc).ownBlock = some g → g < w.heap.size from fun g hg => (hown.lt g hg).2)
  have hnn : decide ((65536 : Int) ≤ (n : Int)) = false := decide_eq_false (by omega)
  clear hlv2
  have HA := Lib.hid hA
  have hm := hA.sm
  have hrb := hb.lt
  clear hb hown hb1 hka hA
  go_enter Tryz.func70, Tryz.ntmps70
  go_wp2_with fail
  have hd1 := (Kept.refl S0 w).drew
  have hbk0 := hd1.blk HB.out (fun x => x)
  have how0 := HO.out.kept hd1 (fun _ _ x => x)
  have hA6 := HA.out.kept hd1
  have hKD := HK.out.drew
  have hol := HOL.out
  have hS0 : w.drew.cell? ⟨rb, 5, none⟩ = some (.slice lA n lc) := hbk0.cell 5
  refine wp_region_R (fun w' => w'.cell? ⟨rb, 5, none⟩ = some (.slice lA n lc)) [11] (by kernel_rfl) ?_
  clear hd1 HB HO HA HK c1
  generalize w.drew = w6 at *
  (first | (refine tkR 0 (v := ?_) rfl hS0 ⟨by rfl, ?_⟩ ?_; rotate_left; intro w h; (try dsimp only at h); first | (go_simp; done) | (go_simp; with_reducible rfl)) | refine skR 0 rfl (fun _ => hS0) (by rfl) ?_); simp only [zq1, zq2, Act.put, zq4, zq5, zq6]
  (first | (refine tkR 1 (v := ?_) rfl hS0 ⟨by rfl, ?_⟩ ?_; rotate_left; intro w h; (try dsimp only at h); first | (go_simp; done) | (go_simp; with_reducible rfl)) | refine skR 1 rfl (fun _ => hS0) (by rfl) ?_); simp only [zq1, zq2, zq3, Act.put, zq4, zq5, zq6]
  (first | (refine tkR 2 (v := ?_) rfl hS0 ⟨by rfl, ?_⟩ ?_; rotate_left; intro w h; (try dsimp only at h); first | (go_simp; done) | (go_simp; with_reducible rfl)) | refine skR 2 rfl (fun _ => hS0) (by rfl) ?_); simp only [zq1, zq2, zq3, Act.put, zq4, zq5, zq6]
  (first | (refine tkR 3 (v := ?_) rfl hS0 ⟨by rfl, ?_⟩ ?_; rotate_left; intro w h; (try dsimp only at h); first | (go_simp; done) | (go_simp; with_reducible rfl)) | refine skR 3 rfl (fun _ => hS0) (by rfl) ?_); simp only [zq1, zq2, zq3, Act.put, zq4, zq5, zq6]
  (first | (refine tkR 4 (v := ?_) rfl hS0 ⟨by rfl, ?_⟩ ?_; rotate_left; intro w h; (try dsimp only at h); first | (go_simp; done) | (go_simp; with_reducible rfl)) | refine skR 4 rfl (fun _ => hS0) (by rfl) ?_); simp only [zq1, zq2, zq3, Act.put, zq4, zq5, zq6]
  (first | (refine tkR 5 (v := ?_) rfl hS0 ⟨by rfl, ?_⟩ ?_; rotate_left; intro w h; (try dsimp only at h); first | (go_simp; done) | (go_simp; with_reducible rfl)) | refine skR 5 rfl (fun _ => hS0) (by rfl) ?_); simp only [zq1, zq2, zq3, Act.put, zq4, zq5, zq6]
  refine wpAnyR_one 6 rfl (by kernel_rfl) (fun K hK => ?_)
  go_simp
  go_at_call 102
  refine (copy_b A m c v _ hA6.sl (fun h => (hA6.z h).1) hA6.sm).mono ?_
  rintro e w2 ⟨y, rfl, hy, hk2⟩
  obtain ⟨yA, yc, hye, _, _, _⟩ := hy.out
  subst hye
  have hbk := hk2.blk hbk0 (fun x => x)
  have how := how0.kept hk2 (fun _ _ x => x)
  have hK2 := hKD.then0 hk2
  have hy0 := hy.mono hKD.size
  have hBw : B ≤ w2.heap.size := Nat.le_trans hB hK2.size
  have hS : w2.cell? ⟨rb, 5, none⟩ = some (.slice lA n lc) := hbk.cell 5
  refine hK.out _ _ (fun _ => hS) ?_
  clear hK K hbk0 how0 hA6 hS0 hy hk2 hKD
  have hone : ∀ j, j < 1 * 1 → (ecell #[.slice yA m yc] j).oneCell' = true := fun i hi => by
    match i, hi with
    | 0, _ => exact rfl
  refine wpAnyR_one 7 rfl (by kernel_rfl) (fun K hK => ?_)
  go_simp
  have hal : Kept S0 w2 (w2.alloc (.cells #[.slice yA m yc] 71)) := (Kept.refl S0 w2).alloc _
  have hnw := Blk.new w2 71 #[.slice yA m yc]
  have hba := hal.blk hbk (fun x => x)
  have hoa := how.kept hal (fun _ _ x => x)
  have hBa : B ≤ (w2.alloc (.cells #[.slice yA m yc] 71)).heap.size := Nat.le_trans hBw hal.size
  have hSa : (w2.alloc (.cells #[.slice yA m yc] 71)).cell? ⟨rb, 5, none⟩ = some (.slice lA n lc) := hba.cell 5
  have hsl : Sl (w2.alloc (.cells #[.slice yA m yc] 71)) (some ⟨w2.heap.size, 0, none⟩) (1 * 1) (ecell #[.slice yA m yc]) := fun _ => ⟨w2.heap.size, 0, rfl, fun i hi => by
    rw [Nat.zero_add]
    match i, hi with
    | 0, _ => exact hnw.cell 0
    ⟩
  refine hK.out _ _ (fun _ => hSa) ?_
  clear hK K
  generalize w2.heap.size = nb at *
  generalize (w2.alloc (.cells #[.slice yA m yc] 71)) = wa at *
  refine wpAnyR_one 8 rfl (by kernel_rfl) (fun K hK => ?_)
  refine step_append_all rfl (.tmp 16) (.tmp 19) 86 rfl B 71 z 1 24 Tryz.underlying86 hinfo hzs (by omega) AnyV (fun _ _ => trivial) _ n F rfl hoa (some ⟨nb, 0, none⟩) 1 1 (ecell #[.slice yA m yc]) rfl hsl (fun h => by cases h) (fun _ _ => trivial) hone (by unfold maxLen; omega) (by omega) hBa ?_
  intro v' w' ha
  obtain ⟨A', c', rfl, _, _, _⟩ := ha.own.out
  have HA := Lib.hid (show Appended wa w' B 71 1 AnyV (.slice lA n lc) (.slice A' (n + 1) c') (n + 1) (after (n * 1) F (ecell #[.slice yA m yc])) 1 from ha)
  clear ha
  have hbb : Blk w' rb 89 _ := (HA.out.grown.block rb hba.lt (fun e => hoa.ne_blk hba (by decide) e.symm)).trans hba
  have hKw : Kept (ST rb (.slice lA n lc)) wa w' := (Kept.refl _ wa).grown ⟨HA.out.grown.os, HA.out.grown.tape, HA.out.grown.output, HA.out.grown.size, HA.out.grown.block⟩ (fun g hg => .inl (.inr hg))
  have hyb := (hy0.kept hal (fun _ _ x => x)).kept hKw (fun g hg e => by
    have h1 := (hy0.lt g hg).1
    rcases e with e | e
    · omega
    · have := hol g e; omega)
  have hSb : w'.cell? ⟨rb, 5, none⟩ = some (.slice lA n lc) := hbb.cell 5
  refine hK.out _ _ (fun _ => hSb) ?_
  clear hK K
  refine wpAnyR_late 9 (v := ?_) rfl (by kernel_rfl) (by kernel_rfl) (by kernel_rfl) (by kernel_rfl) (fun _ _ _ h => h) (fun _ => hSb) ⟨by rfl, ?_⟩ ?_
  rotate_left; (intro w; first | (go_simp; done) | (go_simp; with_reducible rfl))
  simp only [zq1, zq2, zq3, Act.put, zq4, zq5, zq6]
  refine wpAnyR_late 10 (v := ?_) rfl (by kernel_rfl) (by kernel_rfl) (by kernel_rfl) (by kernel_rfl) (fun _ _ _ h => h) (fun _ => hSb) ⟨by rfl, ?_⟩ ?_
  rotate_left; (intro w; first | (go_simp; done) | (go_simp; with_reducible rfl))
  simp only [zq1, zq2, zq3, Act.put, zq4, zq5, zq6]
  have y2 := hbb.frozen 5
  have x2 : w'.cell? ⟨rb, 5, none⟩ = some (.slice lA n lc) := hbb.cell 5
  refine wpAnyR_one 11 rfl (by kernel_rfl) (fun K hK => ?_)
  go_simp
  refine hK.out _ _ (fun h => absurd h (by decide)) ?_
  clear hK K
  refine wpAnyR_done (by kernel_rfl) ?_ _
  have hbf : Blk (w'.setCell ⟨rb, 5, none⟩ (.slice A' (n + 1) c')) rb 89 (rCells fl tl ml gl el' (.slice A' (n + 1) c') il) := hbb.set_ 5 _
  have hof : Own (w'.setCell ⟨rb, 5, none⟩ (.slice A' (n + 1) c')) B 71 1 AnyV (.slice A' (n + 1) c') (n + 1) (after (n * 1) F (ecell #[.slice yA m yc])) := HA.out.own.kept ((Kept.refl (S1 rb) w').setCell (p := ⟨rb, 5, none⟩) (.inl rfl) _) (fun g hg e => HA.out.own.ne_blk hbb (by decide) (by have e' : g = rb := e; rw [← e']; exact hg))
  have hkf : Kept (ST rb (.slice lA n lc)) w (w'.setCell ⟨rb, 5, none⟩ (.slice A' (n + 1) c')) := (((hK2.then0 hal).of0 _).trans hKw).setCell (p := ⟨rb, 5, none⟩) (.inl (.inl rfl)) _
  have hlf : (Value.slice A' (n + 1) c').ownBlock = (Value.slice lA n lc).ownBlock ∨ ∃ g, (Value.slice A' (n + 1) c').ownBlock = some g ∧ w.heap.size ≤ g := HA.out.block.imp id (fun e => ⟨_, e, (hK2.then0 hal).size⟩)
  have HF5 := Lib.hid (hyb.kept ((Kept.refl (S1 rb) w').setCell (p := ⟨rb, 5, none⟩) (.inl rfl) (.slice A' (n + 1) c')) (fun g hg e => by have h1 := (hy0.lt g hg).1; have e' : g = rb := e; omega))
  have HF1 := Lib.hid hbf
  have HF2 := Lib.hid hof
  have HF3 := Lib.hid hkf
  have HF4 := Lib.hid hlf
  have un : IntKind.i64.wrap ((n : Int) + 1 - 1) = (n : Int) := by rw [IntWalk.i64_in _ (by omega)]; omega
  have x3 : (w'.setCell ⟨rb, 5, none⟩ (.slice A' (n + 1) c')).cell? ⟨rb, 5, none⟩ = some (.slice A' (n + 1) c') := hbf.cell 5
  clear hbf hof hkf hlf hbb hSb hS hSa HA hKw hoa hba hal how hbk hK2 y2 x2 hnw hsl hyb hy0
  go_wp2_with fail
  go_ret2
  refine ⟨by simp, _, _, _, HF1.out, HF2.out, HF5.out, HF3.out, HF4.out⟩
end
end Go.Proofs.YtlnkdnmeikpckaaGreat
namespace Go.Proofs.YtlnkdnmeikpckaaGreat
open Go.RowKit
set_option maxRecDepth 100000
section
variable {w : World} {rb B n : Nat} {fl tl ml gl el' dl il : Value} {F : Nat → Value}
set_option maxRecDepth 100000 in
set_option maxHeartbeats 1600000 in
theorem raddt_err (el mn mx : Int) (bd : Bool) (x : V3) (hb : Blk w rb 89 (rCells fl tl ml gl el' dl il)) (hown : Own w B 161 1 AnyV tl n F) (hn : n < 256) (h1 : 0 ≤ mn) (h2 : mn ≤ 4294967295) (h3 : 0 ≤ mx) (h4 : mx ≤ 4294967295) (hE : newTE el mn mx bd x ≠ 0) :
    Calls Tryz.prog 62 #[.pointer (some ⟨rb, 0, none⟩), .agg #[.int .u8 el, .int .u32 mn, .int .u32 mx, .bool bd], .agg #[.int .u8 x.t, .int .u64 x.lo, .int .u64 x.hi]] w fun e w' => e = .returned (.tuple #[.int .i64 0, .int .i64 (newTE el mn mx bd x)]) ∧ Kept S0 w w' := by
  have HNB := Lib.hid (fun w => rtnew_bad el mn mx bd x w h1 h2 h3 h4 hE)
  have hne : (newTE el mn mx bd x != 0) = true := bne_iff_ne.2 hE
  clear hE
  obtain ⟨lA, lc, hlv, _, _, _⟩ := hown.out
  obtain ⟨z, hinfo, hzs⟩ := info_ex Tryz.infoRTAB
  have hlv2 := Lib.hid hlv
  subst hlv
  have hka : Kept S0 w ((w.alloc (.cells #[.int .u8 el, .int .u32 mn, .int .u32 mx, .bool bd] 31)).alloc (.cells #[.int .u8 x.t, .int .u64 x.lo, .int .u64 x.hi] 65)) := (((Kept.refl S0 w).alloc _).alloc _)
  have hb1 := hka.blk hb (fun x => x)
  have HO := Lib.hid (hown.kept hka (fun _ _ x => x))
  have c1 : ((w.alloc (.cells #[.int .u8 el, .int .u32 mn, .int .u32 mx, .bool bd] 31)).alloc (.cells #[.int .u8 x.t, .int .u64 x.lo, .int .u64 x.hi] 65)).cell? ⟨rb, 1, none⟩ = some (.slice lA n lc) := hb1.cell 1
  have HB := Lib.hid hb1
  have HK := Lib.hid hka
  have HOL := Lib.hid (show ∀ g, (Value.slice lA n lc).ownBlock = some g → g < w.heap.size from fun g hg => (hown.lt g hg).2)
  have hnn : decide ((256 : Int) ≤ (n : Int)) = false := decide_eq_false (by omega)
  clear hlv2
  have hX0 := (Blk.new w 31 #[.int .u8 el, .int .u32 mn, .int .u32 mx, .bool bd]).alloc (.cells #[.int .u8 x.t, .int .u64 x.lo, .int .u64 x.hi] 65)
  have hX1 := Blk.new1 w (.cells #[.int .u8 el, .int .u32 mn, .int .u32 mx, .bool bd] 31) 65 #[.int .u8 x.t, .int .u64 x.lo, .int .u64 x.hi]
  have x0 := hX0.cell 0
  have x1 := hX0.cell 1
  have x2 := hX0.cell 2
  have x3 := hX0.cell 3
  have z0 := hX1.cell 0
  have z1 := hX1.cell 1
  have z2 := hX1.cell 2
  clear hX0 hX1
  clear hb hown hb1 hka hinfo hzs HO HB
  go_enter Tryz.func62, Tryz.ntmps62
  go_wp2_with fail
  refine (HNB.out _).mono ?_
  rintro e w2 ⟨rfl, hk2⟩
  have HK2 := Lib.hid (HK.out.then0 hk2)
  clear hk2
  go_wp2_with fail
  go_ret2
  exact ⟨rfl, HK2.out⟩
set_option maxRecDepth 100000 in
set_option maxHeartbeats 3200000 in
theorem raddt_ok (el mx : Int) (k : Nat) (bd : Bool) (x : V3) (hb : Blk w rb 89 (rCells fl tl ml gl el' dl il)) (hown : Own w B 161 1 AnyV tl n F) (hn : n < 256) (hB : B ≤ w.heap.size) (h3 : 0 ≤ mx) (h4 : mx ≤ 4294967295) (hE : newTE el k mx bd x = 0) :
    Calls Tryz.prog 62 #[.pointer (some ⟨rb, 0, none⟩), .agg #[.int .u8 el, .int .u32 (k : Int), .int .u32 mx, .bool bd], .agg #[.int .u8 x.t, .int .u64 x.lo, .int .u64 x.hi]] w fun e w' => e = .returned (.tuple #[.int .i64 (n : Int), .int .i64 0]) ∧ ∃ ob ov lv', Blk w' rb 89 (rCells fl lv' ml gl el' dl il) ∧ Own w' B 161 1 AnyV lv' (n + 1) (after n F (ecell #[.pointer (some ⟨ob, 0, none⟩)])) ∧ T20.RefAt w' ob w.heap.size k el k mx bd ov (fun _ => x) ∧ Kept (ST rb tl) w w' ∧ (lv'.ownBlock = (tl).ownBlock ∨ ∃ g, lv'.ownBlock = some g ∧ w.heap.size ≤ g) := by
  obtain ⟨m1, f1, l1⟩ := tnew_ok el k mx bd x hE
  have HNB := Lib.hid (fun w => T20.rnew_made el mx k bd x w (by omega) h3 h4 m1 f1)
  clear hE m1 f1 l1
  obtain ⟨lA, lc, hlv, _, _, _⟩ := hown.out
  obtain ⟨z, hinfo, hzs⟩ := info_ex Tryz.infoRTAB
  have hlv2 := Lib.hid hlv
  subst hlv
  have hka : Kept S0 w ((w.alloc (.cells #[.int .u8 el, .int .u32 (k : Int), .int .u32 mx, .bool bd] 31)).alloc (.cells #[.int .u8 x.t, .int .u64 x.lo, .int .u64 x.hi] 65)) := (((Kept.refl S0 w).alloc _).alloc _)
  have hb1 := hka.blk hb (fun x => x)
  have HO := Lib.hid (hown.kept hka (fun _ _ x => x))
  have c1 : ((w.alloc (.cells #[.int .u8 el, .int .u32 (k : Int), .int .u32 mx, .bool bd] 31)).alloc (.cells #[.int .u8 x.t, .int .u64 x.lo, .int .u64 x.hi] 65)).cell? ⟨rb, 1, none⟩ = some (.slice lA n lc) := hb1.cell 1
  have HB := Lib.hid hb1
  have HK := Lib.hid hka
  have HOL := Lib.hid (show ∀ g, (Value.slice lA n lc).ownBlock = some g → g < w.heap.size from fun g hg => (hown.lt g hg).2)
  have hnn : decide ((256 : Int) ≤ (n : Int)) = false := decide_eq_false (by omega)
  clear hlv2
  have hX0 := (Blk.new w 31 #[.int .u8 el, .int .u32 (k : Int), .int .u32 mx, .bool bd]).alloc (.cells #[.int .u8 x.t, .int .u64 x.lo, .int .u64 x.hi] 65)
  have hX1 := Blk.new1 w (.cells #[.int .u8 el, .int .u32 (k : Int), .int .u32 mx, .bool bd] 31) 65 #[.int .u8 x.t, .int .u64 x.lo, .int .u64 x.hi]
  have x0 := hX0.cell 0
  have x1 := hX0.cell 1
  have x2 := hX0.cell 2
  have x3 := hX0.cell 3
  have z0 := hX1.cell 0
  have z1 := hX1.cell 1
  have z2 := hX1.cell 2
  clear hX0 hX1
  have hrb := hb.lt
  clear hb hown hb1 hka
  go_enter Tryz.func62, Tryz.ntmps62
  go_wp2_with fail
  refine (HNB.out _).mono ?_
  rintro e w2 ⟨ob, ov, rfl, ht2, hk2⟩
  have hbk := hk2.blk HB.out (fun x => x)
  have how := HO.out.kept hk2 (fun _ _ x => x)
  have hK2 := HK.out.then0 hk2
  have ht0 : T20.RefAt w2 ob w.heap.size k el k mx bd ov (fun _ => x) := ⟨ht2.obj, ht2.own.mono HK.out.size, Nat.le_trans HK.out.size ht2.lo⟩
  have hol := HOL.out
  have y1 : w2.cell? ⟨rb, 1, none⟩ = some (.slice lA n lc) := hbk.cell 1
  have hal : Kept S0 w2 (w2.alloc (.cells #[.pointer (some ⟨ob, 0, none⟩)] 161)) := (Kept.refl S0 w2).alloc _
  have hnw := Blk.new w2 161 #[.pointer (some ⟨ob, 0, none⟩)]
  have hba := hal.blk hbk (fun x => x)
  have hoa := how.kept hal (fun _ _ x => x)
  have hBa : B ≤ (w2.alloc (.cells #[.pointer (some ⟨ob, 0, none⟩)] 161)).heap.size := Nat.le_trans hB (Nat.le_trans hK2.size hal.size)
  have hta : T20.RefAt (w2.alloc (.cells #[.pointer (some ⟨ob, 0, none⟩)] 161)) ob w.heap.size k el k mx bd ov (fun _ => x) := ht0.kept0 hal
  have hsl : Sl (w2.alloc (.cells #[.pointer (some ⟨ob, 0, none⟩)] 161)) (some ⟨w2.heap.size, 0, none⟩) (1 * 1) (ecell #[.pointer (some ⟨ob, 0, none⟩)]) := fun _ => ⟨w2.heap.size, 0, rfl, fun i hi => by
    rw [Nat.zero_add]
    match i, hi with
    | 0, _ => exact hnw.cell 0⟩
  have hone : ∀ j, j < 1 * 1 → (ecell #[.pointer (some ⟨ob, 0, none⟩)] j).oneCell' = true := fun i hi => by
    match i, hi with
    | 0, _ => exact rfl
  have un : IntKind.i64.wrap ((n : Int) + 1 - 1) = (n : Int) := by rw [IntWalk.i64_in _ (by omega)]; omega
  have HHBA := Lib.hid hba
  have HHOA := Lib.hid hoa
  have HHTA := Lib.hid hta
  have HHKA := Lib.hid (hK2.then0 hal)
  clear hk2 ht2 hbk how hK2 hal hnw hba hta c1 HO HB HK ht0
  go_wp2_with (at_builtin; refine wpList_append_all rfl (.tmp 29) (.tmp 31) 82 rfl B 161 z 1 8 Tryz.underlying82 hinfo hzs (by omega) AnyV (fun _ _ => trivial) _ n F rfl hoa (some ⟨w2.heap.size, 0, none⟩) 1 1 (ecell #[.pointer (some ⟨ob, 0, none⟩)]) rfl hsl (fun h => by cases h) (fun _ _ => trivial) hone (by unfold maxLen; omega) (by omega) hBa ?_)
  all_goals
    intro v' w' ha
    obtain ⟨A', c', rfl, _, _, _⟩ := ha.own.out
    have HA := Lib.hid (show Appended (w2.alloc (.cells #[.pointer (some ⟨ob, 0, none⟩)] 161)) w' B 161 1 AnyV (.slice lA n lc) (.slice A' (n + 1) c') (n + 1) (after n F (ecell #[.pointer (some ⟨ob, 0, none⟩)])) 1 from by simpa using ha)
    clear ha y1 hoa hsl hone hBa
    have hbb : Blk w' rb 89 _ := (HA.out.grown.block rb HHBA.out.lt (fun e => HHOA.out.ne_blk HHBA.out (by decide) e.symm)).trans HHBA.out
    have hKw : Kept (ST rb (.slice lA n lc)) (w2.alloc (.cells #[.pointer (some ⟨ob, 0, none⟩)] 161)) w' := (Kept.refl _ _).grown ⟨HA.out.grown.os, HA.out.grown.tape, HA.out.grown.output, HA.out.grown.size, HA.out.grown.block⟩ (fun g hg => .inl (.inr hg))
    have hkc := (Kept.refl (S1 rb) w').setCell (p := ⟨rb, 1, none⟩) (.inl rfl) (.slice A' (n + 1) c')
    have hlt := HHTA.out.own.lt
    have hlo := HHTA.out.lo
    have HF5 := Lib.hid ((HHTA.out.kept hKw (fun e => by
      rcases e with e | e
      · omega
      · have := hol ob e; omega) (fun g hg e => by
      have := (hlt g hg).1
      rcases e with e | e
      · omega
      · have := hol g e; omega)).kept hkc (fun e => by have e' : ob = rb := e; omega) (fun g hg e => by have := (hlt g hg).1; have e' : g = rb := e; omega))
    have y2 := hbb.frozen 1
    have x2 : w'.cell? ⟨rb, 1, none⟩ = some (.slice lA n lc) := hbb.cell 1
    have hbf : Blk (w'.setCell ⟨rb, 1, none⟩ (.slice A' (n + 1) c')) rb 89 (rCells fl (.slice A' (n + 1) c') ml gl el' dl il) := hbb.set_ 1 _
    have hof : Own (w'.setCell ⟨rb, 1, none⟩ (.slice A' (n + 1) c')) B 161 1 AnyV (.slice A' (n + 1) c') (n + 1) (after n F (ecell #[.pointer (some ⟨ob, 0, none⟩)])) := HA.out.own.kept hkc (fun g hg e => HA.out.own.ne_blk hbb (by decide) (by have e' : g = rb := e; rw [← e']; exact hg))
    have hkf : Kept (ST rb (.slice lA n lc)) w (w'.setCell ⟨rb, 1, none⟩ (.slice A' (n + 1) c')) := ((HHKA.out.of0 _).trans hKw).setCell (p := ⟨rb, 1, none⟩) (.inl (.inl rfl)) _
    have hlf : (Value.slice A' (n + 1) c').ownBlock = (Value.slice lA n lc).ownBlock ∨ ∃ g, (Value.slice A' (n + 1) c').ownBlock = some g ∧ w.heap.size ≤ g := HA.out.block.imp id (fun e => ⟨_, e, HHKA.out.size⟩)
    have x3 : (w'.setCell ⟨rb, 1, none⟩ (.slice A' (n + 1) c')).cell? ⟨rb, 1, none⟩ = some (.slice A' (n + 1) c') := hbf.cell 1
    have HF1 := Lib.hid hbf
    have HF2 := Lib.hid hof
    have HF3 := Lib.hid hkf
    have HF4 := Lib.hid hlf
    clear hbf hof hkf hlf hbb hKw hkc hlt hlo HA HHBA HHOA HHTA HHKA
    go_wp2_with fail
    go_ret2
    exact ⟨by simp, _, _, _, HF1.out, HF2.out, HF5.out, HF3.out, HF4.out⟩
set_option maxRecDepth 100000 in
set_option maxHeartbeats 1600000 in
theorem raddm_err (mn mx : Int) (bd : Bool) (hb : Blk w rb 89 (rCells fl tl ml gl el' dl il)) (hown : Own w B 194 1 AnyV ml n F) (hn : n < 256) (h1 : 0 ≤ mn) (h2 : mn ≤ 4294967295) (h3 : 0 ≤ mx) (h4 : mx ≤ 4294967295) (hE : newME mn mx bd ≠ 0) :
    Calls Tryz.prog 64 #[.pointer (some ⟨rb, 0, none⟩), .agg #[.int .u32 mn, .int .u32 mx, .bool bd]] w fun e w' => e = .returned (.tuple #[.int .i64 0, .int .i64 (newME mn mx bd)]) ∧ Kept S0 w w' := by
  have HNB := Lib.hid (fun w => rmnew_bad mn mx bd w h1 h2 h3 h4 hE)
  have hne : (newME mn mx bd != 0) = true := bne_iff_ne.2 hE
  clear hE
  obtain ⟨lA, lc, hlv, _, _, _⟩ := hown.out
  obtain ⟨z, hinfo, hzs⟩ := info_ex Tryz.infoRMEM
  have hlv2 := Lib.hid hlv
  subst hlv
  have hka : Kept S0 w (w.alloc (.cells #[.int .u32 mn, .int .u32 mx, .bool bd] 29)) := ((Kept.refl S0 w).alloc _)
  have hb1 := hka.blk hb (fun x => x)
  have HO := Lib.hid (hown.kept hka (fun _ _ x => x))
  have c1 : (w.alloc (.cells #[.int .u32 mn, .int .u32 mx, .bool bd] 29)).cell? ⟨rb, 2, none⟩ = some (.slice lA n lc) := hb1.cell 2
  have HB := Lib.hid hb1
  have HK := Lib.hid hka
  have HOL := Lib.hid (show ∀ g, (Value.slice lA n lc).ownBlock = some g → g < w.heap.size from fun g hg => (hown.lt g hg).2)
  have hnn : decide ((256 : Int) ≤ (n : Int)) = false := decide_eq_false (by omega)
  clear hlv2
  have hX0 := Blk.new w 29 #[.int .u32 mn, .int .u32 mx, .bool bd]
  have x0 := hX0.cell 0
  have x1 := hX0.cell 1
  have x2 := hX0.cell 2
  clear hX0
  clear hb hown hb1 hka hinfo hzs HO HB
  go_enter Tryz.func64, Tryz.ntmps64
  go_wp2_with fail
  refine (HNB.out _).mono ?_
  rintro e w2 ⟨rfl, hk2⟩
  have HK2 := Lib.hid (HK.out.then0 hk2)
  clear hk2
  go_wp2_with fail
  go_ret2
  exact ⟨rfl, HK2.out⟩
set_option maxRecDepth 100000 in
set_option maxHeartbeats 3200000 in
theorem raddm_ok (mx : Int) (k : Nat) (bd : Bool) (hb : Blk w rb 89 (rCells fl tl ml gl el' dl il)) (hown : Own w B 194 1 AnyV ml n F) (hn : n < 256) (hB : B ≤ w.heap.size) (h3 : 0 ≤ mx) (h4 : mx ≤ 4294967295) (hE : newME k mx bd = 0) :
    Calls Tryz.prog 64 #[.pointer (some ⟨rb, 0, none⟩), .agg #[.int .u32 (k : Int), .int .u32 mx, .bool bd]] w fun e w' => e = .returned (.tuple #[.int .i64 (n : Int), .int .i64 0]) ∧ ∃ ob ov lv', Blk w' rb 89 (rCells fl tl lv' gl el' dl il) ∧ Own w' B 194 1 AnyV lv' (n + 1) (after n F (ecell #[.pointer (some ⟨ob, 0, none⟩)])) ∧ M19.RMemAt w' ob w.heap.size (k * 65536) k mx bd ov M19.zeroF ∧ Kept (ST rb ml) w w' ∧ (lv'.ownBlock = (ml).ownBlock ∨ ∃ g, lv'.ownBlock = some g ∧ w.heap.size ≤ g) := by
  obtain ⟨m1, l1⟩ := mnew_ok k mx bd hE
  have HNB := Lib.hid (fun w => M19.rnew_made mx bd w k (by omega) h3 h4 m1)
  clear hE m1 l1
  obtain ⟨lA, lc, hlv, _, _, _⟩ := hown.out
  obtain ⟨z, hinfo, hzs⟩ := info_ex Tryz.infoRMEM
  have hlv2 := Lib.hid hlv
  subst hlv
  have hka : Kept S0 w (w.alloc (.cells #[.int .u32 (k : Int), .int .u32 mx, .bool bd] 29)) := ((Kept.refl S0 w).alloc _)
  have hb1 := hka.blk hb (fun x => x)
  have HO := Lib.hid (hown.kept hka (fun _ _ x => x))
  have c1 : (w.alloc (.cells #[.int .u32 (k : Int), .int .u32 mx, .bool bd] 29)).cell? ⟨rb, 2, none⟩ = some (.slice lA n lc) := hb1.cell 2
  have HB := Lib.hid hb1
  have HK := Lib.hid hka
  have HOL := Lib.hid (show ∀ g, (Value.slice lA n lc).ownBlock = some g → g < w.heap.size from fun g hg => (hown.lt g hg).2)
  have hnn : decide ((256 : Int) ≤ (n : Int)) = false := decide_eq_false (by omega)
  clear hlv2
  have hX0 := Blk.new w 29 #[.int .u32 (k : Int), .int .u32 mx, .bool bd]
  have x0 := hX0.cell 0
  have x1 := hX0.cell 1
  have x2 := hX0.cell 2
  clear hX0
  have hrb := hb.lt
  clear hb hown hb1 hka
  go_enter Tryz.func64, Tryz.ntmps64
  go_wp2_with fail
  refine (HNB.out _).mono ?_
  rintro e w2 ⟨ob, ov, rfl, ht2, hk2⟩
  have hbk := hk2.blk HB.out (fun x => x)
  have how := HO.out.kept hk2 (fun _ _ x => x)
  have hK2 := HK.out.then0 hk2
  have ht0 : M19.RMemAt w2 ob w.heap.size (k * 65536) k mx bd ov M19.zeroF := ⟨ht2.obj, ht2.own.mono HK.out.size, Nat.le_trans HK.out.size ht2.lo⟩
  have hol := HOL.out
  have y1 : w2.cell? ⟨rb, 2, none⟩ = some (.slice lA n lc) := hbk.cell 2
  have hal : Kept S0 w2 (w2.alloc (.cells #[.pointer (some ⟨ob, 0, none⟩)] 194)) := (Kept.refl S0 w2).alloc _
  have hnw := Blk.new w2 194 #[.pointer (some ⟨ob, 0, none⟩)]
  have hba := hal.blk hbk (fun x => x)
  have hoa := how.kept hal (fun _ _ x => x)
  have hBa : B ≤ (w2.alloc (.cells #[.pointer (some ⟨ob, 0, none⟩)] 194)).heap.size := Nat.le_trans hB (Nat.le_trans hK2.size hal.size)
  have hta : M19.RMemAt (w2.alloc (.cells #[.pointer (some ⟨ob, 0, none⟩)] 194)) ob w.heap.size (k * 65536) k mx bd ov M19.zeroF := ht0.kept0 hal
  have hsl : Sl (w2.alloc (.cells #[.pointer (some ⟨ob, 0, none⟩)] 194)) (some ⟨w2.heap.size, 0, none⟩) (1 * 1) (ecell #[.pointer (some ⟨ob, 0, none⟩)]) := fun _ => ⟨w2.heap.size, 0, rfl, fun i hi => by
    rw [Nat.zero_add]
    match i, hi with
    | 0, _ => exact hnw.cell 0⟩
  have hone : ∀ j, j < 1 * 1 → (ecell #[.pointer (some ⟨ob, 0, none⟩)] j).oneCell' = true := fun i hi => by
    match i, hi with
    | 0, _ => exact rfl
  have un : IntKind.i64.wrap ((n : Int) + 1 - 1) = (n : Int) := by rw [IntWalk.i64_in _ (by omega)]; omega
  have HHBA := Lib.hid hba
  have HHOA := Lib.hid hoa
  have HHTA := Lib.hid hta
  have HHKA := Lib.hid (hK2.then0 hal)
  clear hk2 ht2 hbk how hK2 hal hnw hba hta c1 HO HB HK ht0
  go_wp2_with (at_builtin; refine wpList_append_all rfl (.tmp 26) (.tmp 28) 83 rfl B 194 z 1 8 Tryz.underlying83 hinfo hzs (by omega) AnyV (fun _ _ => trivial) _ n F rfl hoa (some ⟨w2.heap.size, 0, none⟩) 1 1 (ecell #[.pointer (some ⟨ob, 0, none⟩)]) rfl hsl (fun h => by cases h) (fun _ _ => trivial) hone (by unfold maxLen; omega) (by omega) hBa ?_)
  all_goals
    intro v' w' ha
    obtain ⟨A', c', rfl, _, _, _⟩ := ha.own.out
    have HA := Lib.hid (show Appended (w2.alloc (.cells #[.pointer (some ⟨ob, 0, none⟩)] 194)) w' B 194 1 AnyV (.slice lA n lc) (.slice A' (n + 1) c') (n + 1) (after n F (ecell #[.pointer (some ⟨ob, 0, none⟩)])) 1 from by simpa using ha)
    clear ha y1 hoa hsl hone hBa
    have hbb : Blk w' rb 89 _ := (HA.out.grown.block rb HHBA.out.lt (fun e => HHOA.out.ne_blk HHBA.out (by decide) e.symm)).trans HHBA.out
    have hKw : Kept (ST rb (.slice lA n lc)) (w2.alloc (.cells #[.pointer (some ⟨ob, 0, none⟩)] 194)) w' := (Kept.refl _ _).grown ⟨HA.out.grown.os, HA.out.grown.tape, HA.out.grown.output, HA.out.grown.size, HA.out.grown.block⟩ (fun g hg => .inl (.inr hg))
    have hkc := (Kept.refl (S1 rb) w').setCell (p := ⟨rb, 2, none⟩) (.inl rfl) (.slice A' (n + 1) c')
    have hlt := HHTA.out.own.lt
    have hlo := HHTA.out.lo
    have HF5 := Lib.hid ((HHTA.out.kept hKw (fun e => by
      rcases e with e | e
      · omega
      · have := hol ob e; omega) (fun g hg e => by
      have := (hlt g hg).1
      rcases e with e | e
      · omega
      · have := hol g e; omega)).kept hkc (fun e => by have e' : ob = rb := e; omega) (fun g hg e => by have := (hlt g hg).1; have e' : g = rb := e; omega))
    have y2 := hbb.frozen 2
    have x2 : w'.cell? ⟨rb, 2, none⟩ = some (.slice lA n lc) := hbb.cell 2
    have hbf : Blk (w'.setCell ⟨rb, 2, none⟩ (.slice A' (n + 1) c')) rb 89 (rCells fl tl (.slice A' (n + 1) c') gl el' dl il) := hbb.set_ 2 _
    have hof : Own (w'.setCell ⟨rb, 2, none⟩ (.slice A' (n + 1) c')) B 194 1 AnyV (.slice A' (n + 1) c') (n + 1) (after n F (ecell #[.pointer (some ⟨ob, 0, none⟩)])) := HA.out.own.kept hkc (fun g hg e => HA.out.own.ne_blk hbb (by decide) (by have e' : g = rb := e; rw [← e']; exact hg))
    have hkf : Kept (ST rb (.slice lA n lc)) w (w'.setCell ⟨rb, 2, none⟩ (.slice A' (n + 1) c')) := ((HHKA.out.of0 _).trans hKw).setCell (p := ⟨rb, 2, none⟩) (.inl (.inl rfl)) _
    have hlf : (Value.slice A' (n + 1) c').ownBlock = (Value.slice lA n lc).ownBlock ∨ ∃ g, (Value.slice A' (n + 1) c').ownBlock = some g ∧ w.heap.size ≤ g := HA.out.block.imp id (fun e => ⟨_, e, HHKA.out.size⟩)
    have x3 : (w'.setCell ⟨rb, 2, none⟩ (.slice A' (n + 1) c')).cell? ⟨rb, 2, none⟩ = some (.slice A' (n + 1) c') := hbf.cell 2
    have HF1 := Lib.hid hbf
    have HF2 := Lib.hid hof
    have HF3 := Lib.hid hkf
    have HF4 := Lib.hid hlf
    clear hbf hof hkf hlf hbb hKw hkc hlt hlo HA HHBA HHOA HHTA HHKA
    go_wp2_with fail
    go_ret2
    exact ⟨by simp, _, _, _, HF1.out, HF2.out, HF5.out, HF3.out, HF4.out⟩
end
end Go.Proofs.YtlnkdnmeikpckaaGreat
namespace Go.Proofs.YtlnkdnmeikpckaaGreat
open Go.RowKit
set_option maxRecDepth 100000
/-- A row of one's own, one cell written. -/
theorem Own.set1 {w : World} {base e size : Nat} {n c g j : Nat} {F : Nat → Value} (h : Own w base e size AnyV (.slice (some ⟨g, 0, none⟩) n c) n F) (u : Value) :
    Own (w.setCell ⟨g, j, none⟩ u) base e size AnyV (.slice (some ⟨g, 0, none⟩) n c) n (fun i => if i = j then u else F i) := by
  rcases h with ⟨e, _⟩ | ⟨g', cap, fr, e, h1, h2, h3, h4, h5, h6⟩
  · cases e
  · cases e
    refine .inr ⟨g, c, _, rfl, h1, h2, h3, h4.set j u, fun i hi => ?_, fun _ _ => trivial⟩
    show (if i = j then u else fr i) = (if i = j then u else F i)
    by_cases e : i = j
    · rw [if_pos e, if_pos e]
    · rw [if_neg e, if_neg e]; exact h5 i hi
theorem Own.frozen {w : World} {base e size : Nat} {Q : Value → Prop} {n c g : Nat} {F : Nat → Value} (h : Own w base e size Q (.slice (some ⟨g, 0, none⟩) n c) n F) (j : Nat) : w.frozen? ⟨g, j, none⟩ = false := by
  rcases h with ⟨e, _⟩ | ⟨g', cap, fr, e, h1, h2, h3, h4, h5, h6⟩
  · cases e
  · cases e
    exact h4.frozen j
section
variable {w : World} {sb B n : Nat} {fl tl ml gl el dl il : Value} {F : Nat → Value}
set_option maxHeartbeats 1600000 in
theorem gettable_in (a : Nat) (p : Option Addr) (hb : Blk w sb 132 (stCells fl tl ml gl el dl il)) (hown : Own w B 55 1 AnyV tl n F) (hn : n ≤ 65536) (ha : a < n) (hF : F a = .pointer p) :
    Calls Tryz.prog 16 #[.pointer (some ⟨sb, 0, none⟩), .int .i64 (a : Int)] w fun e w' => e = .returned (.tuple #[.pointer p, .int .i64 0]) ∧ w = w' := by
  obtain ⟨g, fc, hfl, _, _⟩ := hown.is_some (by omega)
  subst hfl
  have c0 : w.cell? ⟨sb, 0, none⟩ = some (.bool true) := hb.cell 0
  have c1 : w.cell? ⟨sb, 2, none⟩ = some (.slice (some ⟨g, 0, none⟩) n fc) := hb.cell 2
  have g0 := (hown.rowcell (j := a) (by omega)).trans (congrArg some hF)
  clear hb hown hF
  go_enter Tryz.func16, Tryz.ntmps16
  go_wp2_with fail
  refine (off_made _ _ c0).mono ?_
  rintro e w1 ⟨rfl, rfl⟩
  go_wp2_with fail
  refine (at_TAB_in a g c1 hn ha).mono ?_
  rintro e w1 ⟨rfl, rfl⟩
  go_wp2_with fail
  go_ret2
  exact ⟨rfl, rfl⟩
set_option maxHeartbeats 1600000 in
theorem gettable_out (a : Int) (hb : Blk w sb 132 (stCells fl tl ml gl el dl il)) (hown : Own w B 55 1 AnyV tl n F) (hn : n ≤ 65536) (ha : a < 0 ∨ (n : Int) ≤ a) :
    Calls Tryz.prog 16 #[.pointer (some ⟨sb, 0, none⟩), .int .i64 a] w fun e w' => e = .returned (.tuple #[.pointer none, .int .i64 11]) ∧ w = w' := by
  obtain ⟨lA, lc, hlv, _, _, _⟩ := hown.out
  subst hlv
  have c0 : w.cell? ⟨sb, 0, none⟩ = some (.bool true) := hb.cell 0
  have c1 : w.cell? ⟨sb, 2, none⟩ = some (.slice lA n lc) := hb.cell 2
  clear hb hown
  go_enter Tryz.func16, Tryz.ntmps16
  go_wp2_with fail
  refine (off_made _ _ c0).mono ?_
  rintro e w1 ⟨rfl, rfl⟩
  go_wp2_with fail
  refine (at_TAB_out a lA c1 hn ha).mono ?_
  rintro e w1 ⟨rfl, rfl⟩
  clear ha
  go_wp2_with fail
  go_ret2
  exact ⟨rfl, rfl⟩
set_option maxHeartbeats 1600000 in
theorem getmem_in (a : Nat) (p : Option Addr) (hb : Blk w sb 132 (stCells fl tl ml gl el dl il)) (hown : Own w B 59 1 AnyV ml n F) (hn : n ≤ 65536) (ha : a < n) (hF : F a = .pointer p) :
    Calls Tryz.prog 18 #[.pointer (some ⟨sb, 0, none⟩), .int .i64 (a : Int)] w fun e w' => e = .returned (.tuple #[.pointer p, .int .i64 0]) ∧ w = w' := by
  obtain ⟨g, fc, hfl, _, _⟩ := hown.is_some (by omega)
  subst hfl
  have c0 : w.cell? ⟨sb, 0, none⟩ = some (.bool true) := hb.cell 0
  have c1 : w.cell? ⟨sb, 3, none⟩ = some (.slice (some ⟨g, 0, none⟩) n fc) := hb.cell 3
  have g0 := (hown.rowcell (j := a) (by omega)).trans (congrArg some hF)
  clear hb hown hF
  go_enter Tryz.func18, Tryz.ntmps18
  go_wp2_with fail
  refine (off_made _ _ c0).mono ?_
  rintro e w1 ⟨rfl, rfl⟩
  go_wp2_with fail
  refine (at_MEM_in a g c1 hn ha).mono ?_
  rintro e w1 ⟨rfl, rfl⟩
  go_wp2_with fail
  go_ret2
  exact ⟨rfl, rfl⟩
set_option maxHeartbeats 1600000 in
theorem getmem_out (a : Int) (hb : Blk w sb 132 (stCells fl tl ml gl el dl il)) (hown : Own w B 59 1 AnyV ml n F) (hn : n ≤ 65536) (ha : a < 0 ∨ (n : Int) ≤ a) :
    Calls Tryz.prog 18 #[.pointer (some ⟨sb, 0, none⟩), .int .i64 a] w fun e w' => e = .returned (.tuple #[.pointer none, .int .i64 11]) ∧ w = w' := by
  obtain ⟨lA, lc, hlv, _, _, _⟩ := hown.out
  subst hlv
  have c0 : w.cell? ⟨sb, 0, none⟩ = some (.bool true) := hb.cell 0
  have c1 : w.cell? ⟨sb, 3, none⟩ = some (.slice lA n lc) := hb.cell 3
  clear hb hown
  go_enter Tryz.func18, Tryz.ntmps18
  go_wp2_with fail
  refine (off_made _ _ c0).mono ?_
  rintro e w1 ⟨rfl, rfl⟩
  go_wp2_with fail
  refine (at_MEM_out a lA c1 hn ha).mono ?_
  rintro e w1 ⟨rfl, rfl⟩
  clear ha
  go_wp2_with fail
  go_ret2
  exact ⟨rfl, rfl⟩
end
end Go.Proofs.YtlnkdnmeikpckaaGreat
