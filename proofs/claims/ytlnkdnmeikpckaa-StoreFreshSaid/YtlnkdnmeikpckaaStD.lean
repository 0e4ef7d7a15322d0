/- Contracts of a store's AddFunc, Host, Func. No condition. -/
import Derived.Test.YtlnkdnmeikpckaaStC
namespace Go.Proofs.Ytlnkdnmeikpckaa
open Go.RowKit

section
variable {w : World} {sb B n : Nat} {fl tl ml gl el dl il : Value} {F : Nat → Value}

/-- What AddFunc has done. -/
structure Added (w w' : World) (sb B n : Nat) (fl tl ml gl el dl il : Value) (F : Nat → Value) (np : Nat) (v : Nat → UInt8) (nr : Nat) (u : Nat → UInt8) (h : Bool) (s : ByteArray) (i b : Int) : Prop where
  ex : ∃ fl' yA yc zA zc, Blk w' sb 95 (stCells fl' tl ml gl el dl il) ∧ Own w' B 36 6 AnyV fl' (n + 1) (after (n * 6) F (ecell #[.slice yA np yc, .slice zA nr zc, .bool h, .string s, .int .i64 i, .int .i64 b])) ∧
    Own w' w.heap.size 37 1 IsByte (.slice yA np yc) np (byteV v) ∧ Own w' w.heap.size 37 1 IsByte (.slice zA nr zc) nr (byteV u) ∧ (fl'.ownBlock = fl.ownBlock ∨ ∃ g, fl'.ownBlock = some g ∧ w.heap.size ≤ g)
  kept : Kept (ST sb fl) w w'

set_option maxRecDepth 100000 in
set_option maxHeartbeats 3200000 in
theorem addfunc_bad (A C : Option Addr) (np c nr d : Nat) (v u : Nat → UInt8) (h : Bool) (s : ByteArray) (i b : Int) (hb : Blk w sb 95 (stCells fl tl ml gl el dl il)) (hown : Own w B 36 6 AnyV fl n F) (hn : n < 65536) (hA : TSl w A np c v) (hC : TSl w C nr d u) (hbad : badT v np = true ∨ badT u nr = true) :
    Calls Try.prog 10 #[.pointer (some ⟨sb, 0, none⟩), .agg #[.slice A np c, .slice C nr d, .bool h, .string s, .int .i64 i, .int .i64 b]] w fun e w' => e = .returned (.tuple #[.int .i64 0, .int .i64 2]) ∧ Kept S0 w w' := by
  obtain ⟨fA, fc, hfl, _, _, _⟩ := hown.out
  subst hfl
  have hka : Kept S0 w (w.alloc (.cells #[.slice A np c, .slice C nr d, .bool h, .string s, .int .i64 i, .int .i64 b] 36)) := (Kept.refl S0 w).alloc _
  have hb1 := hka.blk hb (fun x => x)
  have c0 : (w.alloc (.cells #[.slice A np c, .slice C nr d, .bool h, .string s, .int .i64 i, .int .i64 b] 36)).cell? ⟨sb, 0, none⟩ = some (.bool true) := hb1.cell 0
  have c1 : (w.alloc (.cells #[.slice A np c, .slice C nr d, .bool h, .string s, .int .i64 i, .int .i64 b] 36)).cell? ⟨sb, 1, none⟩ = some (.slice fA n fc) := hb1.cell 1
  have hX := Blk.new w 36 #[.slice A np c, .slice C nr d, .bool h, .string s, .int .i64 i, .int .i64 b]
  have x0 := hX.cell 0
  have x1 := hX.cell 1
  have HA := Lib.hid (hA.kept hka)
  have HC := Lib.hid (hC.kept hka)
  have hnn : decide ((65536 : Int) ≤ (n : Int)) = false := decide_eq_false (by omega)
  have HK := Lib.hid hka
  have HB := Lib.hid hbad
  clear hb hown hA hC hbad hka hb1 hX
  go_enter Try.func10, Try.ntmps10
  go_wp2_with fail
  refine (off_made _ _ c0).mono ?_
  rintro e w1 ⟨rfl, rfl⟩
  go_wp2_with fail
  refine (vals_any A np c v _ HA.out.sl (by have := HA.out.sz; omega)).mono ?_
  rintro e w1 ⟨rfl, rfl⟩
  cases hp : badT v np with
  | true =>
    clear hp
    go_wp2_with fail
    go_ret2
    exact ⟨rfl, HK.out⟩
  | false =>
    have HBR := Lib.hid (HB.out.resolve_left (by rw [hp]; simp))
    clear hp
    go_wp2_with fail
    refine (vals_any C nr d u _ HC.out.sl (by have := HC.out.sz; omega)).mono ?_
    rintro e w1 ⟨rfl, rfl⟩
    rw [HBR.out]
    go_wp2_with fail
    go_ret2
    exact ⟨rfl, HK.out⟩

set_option maxRecDepth 100000 in
set_option maxHeartbeats 3200000 in
theorem addfunc_ok (A C : Option Addr) (np c nr d : Nat) (v u : Nat → UInt8) (h : Bool) (s : ByteArray) (i b : Int) (hb : Blk w sb 95 (stCells fl tl ml gl el dl il)) (hown : Own w B 36 6 AnyV fl n F) (hn : n < 65536) (hB : B ≤ w.heap.size) (hA : TSl w A np c v) (hC : TSl w C nr d u) (h1 : badT v np = false) (h2 : badT u nr = false) :
    Calls Try.prog 10 #[.pointer (some ⟨sb, 0, none⟩), .agg #[.slice A np c, .slice C nr d, .bool h, .string s, .int .i64 i, .int .i64 b]] w fun e w' => e = .returned (.tuple #[.int .i64 (n : Int), .int .i64 0]) ∧ Added w w' sb B n fl tl ml gl el dl il F np v nr u h s i b := by
  obtain ⟨fA, fc, hfl, _, _, _⟩ := hown.out
  subst hfl
  have hka : Kept S0 w (w.alloc (.cells #[.slice A np c, .slice C nr d, .bool h, .string s, .int .i64 i, .int .i64 b] 36)) := (Kept.refl S0 w).alloc _
  have hb1 := hka.blk hb (fun x => x)
  have c0 : (w.alloc (.cells #[.slice A np c, .slice C nr d, .bool h, .string s, .int .i64 i, .int .i64 b] 36)).cell? ⟨sb, 0, none⟩ = some (.bool true) := hb1.cell 0
  have c1 : (w.alloc (.cells #[.slice A np c, .slice C nr d, .bool h, .string s, .int .i64 i, .int .i64 b] 36)).cell? ⟨sb, 1, none⟩ = some (.slice fA n fc) := hb1.cell 1
  have hX := Blk.new w 36 #[.slice A np c, .slice C nr d, .bool h, .string s, .int .i64 i, .int .i64 b]
  have x0 := hX.cell 0
  have x1 := hX.cell 1
  have HX := Lib.hid hX
  have HB1 := Lib.hid hb1
  have HO1 := Lib.hid (hown.kept hka (fun _ _ x => x))
  have HA := Lib.hid (hA.kept hka)
  have HC := Lib.hid (hC.kept hka)
  have hnn : decide ((65536 : Int) ≤ (n : Int)) = false := decide_eq_false (by omega)
  have HK := Lib.hid hka
  have H1 := Lib.hid h1
  have H2 := Lib.hid h2
  have hsl := hb.lt
  have hfl : ∀ g, (Value.slice fA n fc).ownBlock = some g → g < w.heap.size := fun g hg => (hown.lt g hg).2
  have HFL := Lib.hid hfl
  clear hb hown hA hC h1 h2 hka hb1 hX hfl
  go_enter Try.func10, Try.ntmps10
  go_wp2_with fail
  refine (off_made _ _ c0).mono ?_
  rintro e w1 ⟨rfl, rfl⟩
  go_wp2_with fail
  refine (vals_any A np c v _ HA.out.sl (by have := HA.out.sz; omega)).mono ?_
  rintro e w1 ⟨rfl, rfl⟩
  rw [H1.out]
  go_wp2_with fail
  refine (vals_any C nr d u _ HC.out.sl (by have := HC.out.sz; omega)).mono ?_
  rintro e w1 ⟨rfl, rfl⟩
  rw [H2.out]
  go_wp2_with fail
  refine (own_any A np c v C nr d u _ HA.out HC.out).mono ?_
  rintro e w2 ⟨y, z, rfl, hy, hz, _, hk2⟩
  obtain ⟨yA, yc, hye, _, _, _⟩ := hy.out
  obtain ⟨zA, zc, hze, _, _, _⟩ := hz.out
  subst hye hze
  have hx2 := hk2.blk HX.out (fun x => x)
  have t0 := hx2.cell 0
  have t1 := hx2.cell 1
  have f0 := hx2.frozen 0
  have f1 := hx2.frozen 1
  generalize hbx : w.heap.size = bx at *
  have hs2 : Kept (S1 bx) w2 ((w2.setCell ⟨bx, 0, none⟩ (.slice yA np yc)).setCell ⟨bx, 1, none⟩ (.slice zA nr zc)) := ((Kept.refl (S1 bx) w2).setCell (p := ⟨bx, 0, none⟩) (.inl rfl) _).setCell (p := ⟨bx, 1, none⟩) (.inl rfl) _
  have HS2 := Lib.hid hs2
  have HX3 := Lib.hid (show Blk ((w2.setCell ⟨bx, 0, none⟩ (.slice yA np yc)).setCell ⟨bx, 1, none⟩ (.slice zA nr zc)) bx 36 #[.slice yA np yc, .slice zA nr zc, .bool h, .string s, .int .i64 i, .int .i64 b] from (hx2.set_ 0 _).set_ 1 _)
  have HK2 := Lib.hid hk2
  have HY := Lib.hid hy
  have HZ := Lib.hid hz
  clear hk2 hx2 x0 x1 c0 c1 hs2 hy hz
  go_wp2_with fail
  generalize (w2.setCell ⟨bx, 0, none⟩ (.slice yA np yc)).setCell ⟨bx, 1, none⟩ (.slice zA nr zc) = w3 at *
  clear t0 t1 f0 f1
  have y0 := HX3.out.cell 0
  have y1 := HX3.out.cell 1
  have y2 := HX3.out.cell 2
  have y3 := HX3.out.cell 3
  have y4 := HX3.out.cell 4
  have y5 := HX3.out.cell 5
  refine wp_region_R (fun w' => w'.cell? ⟨bx, 0, none⟩ = some (.slice yA np yc) ∧ w'.cell? ⟨bx, 1, none⟩ = some (.slice zA nr zc) ∧ w'.cell? ⟨bx, 2, none⟩ = some (.bool h) ∧ w'.cell? ⟨bx, 3, none⟩ = some (.string s) ∧ w'.cell? ⟨bx, 4, none⟩ = some (.int .i64 i) ∧ w'.cell? ⟨bx, 5, none⟩ = some (.int .i64 b)) [] (by kernel_rfl) ?_
  have hdd := (Kept.refl S0 w3).drew
  have hw1 : ∀ i, i < bx → ¬ S1 bx i := fun i hi e => by have e' : i = bx := e; omega
  have hb3 : Blk w3.drew sb 95 (stCells (.slice fA n fc) tl ml gl el dl il) := hdd.blk (HS2.out.blk (HK2.out.blk HB1.out (fun x => x)) (hw1 sb hsl)) (fun x => x)
  have ho3 : Own w3.drew B 36 6 AnyV (.slice fA n fc) n F := ((HO1.out.kept HK2.out (fun _ _ x => x)).kept HS2.out (fun g hg => hw1 g (HFL.out g hg))).kept hdd (fun _ _ x => x)
  have hbase : bx + 1 = (w.alloc (.cells #[.slice A np c, .slice C nr d, .bool h, .string s, .int .i64 i, .int .i64 b] 36)).heap.size := by simp [hbx]
  have hB3 : B ≤ w3.drew.heap.size := Nat.le_trans hB (by have h1 := HK2.out.size; have h2 := HS2.out.size; have h3 := hdd.size; omega)
  generalize w3.drew = wd at *
  have hS : wd.cell? ⟨bx, 0, none⟩ = some (.slice yA np yc) ∧ wd.cell? ⟨bx, 1, none⟩ = some (.slice zA nr zc) ∧ wd.cell? ⟨bx, 2, none⟩ = some (.bool h) ∧ wd.cell? ⟨bx, 3, none⟩ = some (.string s) ∧ wd.cell? ⟨bx, 4, none⟩ = some (.int .i64 i) ∧ wd.cell? ⟨bx, 5, none⟩ = some (.int .i64 b) := ⟨keep0 hdd y0, keep0 hdd y1, keep0 hdd y2, keep0 hdd y3, keep0 hdd y4, keep0 hdd y5⟩
  have hX4 : Blk wd bx 36 #[.slice yA np yc, .slice zA nr zc, .bool h, .string s, .int .i64 i, .int .i64 b] := hdd.blk HX3.out (fun x => x)
  refine wpAnyR_take 0 (v := ?_) rfl (by kernel_rfl) (by kernel_rfl) (by kernel_rfl) (by kernel_rfl) (fun _ _ _ h => h) hS ⟨by rfl, ?_⟩ ?_
  rotate_left; (intro w hSw; (try dsimp only at hSw); first | (go_simp; done) | (go_simp; with_reducible rfl))
  simp only [List.getElem_toArray, List.getElem_cons_zero, Act.put, List.setIfInBounds_toArray, List.set_cons_zero, List.set_cons_succ]
  refine wpAnyR_take 1 (v := ?_) rfl (by kernel_rfl) (by kernel_rfl) (by kernel_rfl) (by kernel_rfl) (fun _ _ _ h => h) hS ⟨by rfl, ?_⟩ ?_
  rotate_left; (intro w hSw; (try dsimp only at hSw); first | (go_simp; done) | (go_simp; with_reducible rfl))
  simp only [List.getElem_toArray, List.getElem_cons_zero, List.getElem_cons_succ, Act.put, List.setIfInBounds_toArray, List.set_cons_zero, List.set_cons_succ]
  refine wpAnyR_take 2 (v := ?_) rfl (by kernel_rfl) (by kernel_rfl) (by kernel_rfl) (by kernel_rfl) (fun _ _ _ h => h) hS ⟨by rfl, ?_⟩ ?_
  rotate_left; (intro w hSw; (try dsimp only at hSw); first | (go_simp; done) | (go_simp; with_reducible rfl))
  simp only [List.getElem_toArray, List.getElem_cons_zero, List.getElem_cons_succ, Act.put, List.setIfInBounds_toArray, List.set_cons_zero, List.set_cons_succ]
  refine wpAnyR_take 3 (v := ?_) rfl (by kernel_rfl) (by kernel_rfl) (by kernel_rfl) (by kernel_rfl) (fun _ _ _ h => h) hS ⟨by rfl, ?_⟩ ?_
  rotate_left; (intro w hSw; (try dsimp only at hSw); first | (go_simp; done) | (go_simp; with_reducible rfl))
  simp only [List.getElem_toArray, List.getElem_cons_zero, List.getElem_cons_succ, Act.put, List.setIfInBounds_toArray, List.set_cons_zero, List.set_cons_succ]
  refine wpAnyR_one 4 rfl (by kernel_rfl) (fun K hK => ?_)
  go_simp
  go_at_call 38
  refine (add_FUNC 1 (.slice yA np yc) (.slice zA nr zc) (.bool h) (.string s) (.int .i64 i) (.int .i64 b) rfl rfl rfl rfl rfl rfl hb3 rfl ho3 hn hB3).mono ?_
  rintro e w4 ⟨rfl, fl', hb4, ho4, hk4, hl4⟩
  have hyb : ∀ g, (Value.slice yA np yc).ownBlock = some g → ¬ ST sb (.slice fA n fc) g := fun g hg e => by
    have h1 := (HY.out.lt g hg).1
    rcases e with e | e
    · omega
    · have := HFL.out g e; omega
  have hzb : ∀ g, (Value.slice zA nr zc).ownBlock = some g → ¬ ST sb (.slice fA n fc) g := fun g hg e => by
    have h1 := (HZ.out.lt g hg).1
    rcases e with e | e
    · omega
    · have := HFL.out g e; omega
  have hy4 := (((HY.out.kept HS2.out (fun g hg e => by have e' : g = bx := e; have h1 := (HY.out.lt g hg).1; omega)).kept hdd (fun _ _ x => x)).kept hk4 hyb).mono (b := bx) (by omega)
  have hz4 := (((HZ.out.kept HS2.out (fun g hg e => by have e' : g = bx := e; have h1 := (HZ.out.lt g hg).1; omega)).kept hdd (fun _ _ x => x)).kept hk4 hzb).mono (b := bx) (by omega)
  have hkk : Kept (ST sb (.slice fA n fc)) w w4 := ((((HK.out.then0 HK2.out).trans_ HS2.out (fun i e => .inr (by have e' : i = bx := e; omega))).then0 hdd).of0 _).trans hk4
  have HFIN := Lib.hid (show Added w w4 sb B n (.slice fA n fc) tl ml gl el dl il F np v nr u h s i b from ⟨⟨fl', yA, yc, zA, zc, hb4, ho4, by rw [hbx]; exact hy4, by rw [hbx]; exact hz4, hl4.imp id (fun ⟨g, q1, q2⟩ => ⟨g, q1, by have h1 := HK.out.size; have h2 := HK2.out.size; have h3 := HS2.out.size; have h4 := hdd.size; omega⟩)⟩, hkk⟩)
  have hbt : ¬ ST sb (.slice fA n fc) bx := fun e => by
    rcases e with e | e
    · omega
    · have := HFL.out bx e; omega
  have hX5 := hk4.blk hX4 hbt
  have hS4 : w4.cell? ⟨bx, 0, none⟩ = some (.slice yA np yc) ∧ w4.cell? ⟨bx, 1, none⟩ = some (.slice zA nr zc) ∧ w4.cell? ⟨bx, 2, none⟩ = some (.bool h) ∧ w4.cell? ⟨bx, 3, none⟩ = some (.string s) ∧ w4.cell? ⟨bx, 4, none⟩ = some (.int .i64 i) ∧ w4.cell? ⟨bx, 5, none⟩ = some (.int .i64 b) := ⟨hX5.cell 0, hX5.cell 1, hX5.cell 2, hX5.cell 3, hX5.cell 4, hX5.cell 5⟩
  clear hb4 ho4 hk4 hl4 hyb hzb hy4 hz4 hkk hdd hw1 hb3 ho3 hB3 y0 y1 y2 y3 y4 y5 hX4 hX5 hbt
  refine hK.out _ _ (fun _ => hS4) ?_
  clear hK K
  refine wpAnyR_take 5 (v := ?_) rfl (by kernel_rfl) (by kernel_rfl) (by kernel_rfl) (by kernel_rfl) (fun _ _ _ h => h) hS4 ⟨by rfl, ?_⟩ ?_
  rotate_left; (intro w hSw; (try dsimp only at hSw); first | (go_simp; done) | (go_simp; with_reducible rfl))
  simp only [List.getElem_toArray, List.getElem_cons_zero, List.getElem_cons_succ, Act.put, List.setIfInBounds_toArray, List.set_cons_zero, List.set_cons_succ]
  refine wpAnyR_take 6 (v := ?_) rfl (by kernel_rfl) (by kernel_rfl) (by kernel_rfl) (by kernel_rfl) (fun _ _ _ h => h) hS4 ⟨by rfl, ?_⟩ ?_
  rotate_left; (intro w hSw; (try dsimp only at hSw); first | (go_simp; done) | (go_simp; with_reducible rfl))
  simp only [List.getElem_toArray, List.getElem_cons_zero, List.getElem_cons_succ, Act.put, List.setIfInBounds_toArray, List.set_cons_zero, List.set_cons_succ]
  refine wpAnyR_take 7 (v := ?_) rfl (by kernel_rfl) (by kernel_rfl) (by kernel_rfl) (by kernel_rfl) (fun _ _ _ h => h) hS4 ⟨by rfl, ?_⟩ ?_
  rotate_left; (intro w hSw; (try dsimp only at hSw); first | (go_simp; done) | (go_simp; with_reducible rfl))
  simp only [List.getElem_toArray, List.getElem_cons_zero, List.getElem_cons_succ, Act.put, List.setIfInBounds_toArray, List.set_cons_zero, List.set_cons_succ]
  refine wpAnyR_take 8 (v := ?_) rfl (by kernel_rfl) (by kernel_rfl) (by kernel_rfl) (by kernel_rfl) (fun _ _ _ h => h) hS4 ⟨by rfl, ?_⟩ ?_
  rotate_left; (intro w hSw; (try dsimp only at hSw); first | (go_simp; done) | (go_simp; with_reducible rfl))
  simp only [List.getElem_toArray, List.getElem_cons_zero, List.getElem_cons_succ, Act.put, List.setIfInBounds_toArray, List.set_cons_zero, List.set_cons_succ]
  clear hS hS4
  refine wpAnyR_done (by kernel_rfl) ?_ _
  go_wp2_with fail
  go_ret2
  exact ⟨rfl, HFIN.out⟩
end
end Go.Proofs.Ytlnkdnmeikpckaa
