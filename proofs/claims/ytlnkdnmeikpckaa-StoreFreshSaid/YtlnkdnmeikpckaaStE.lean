/- Contracts of a store's Host, Func. No condition. -/
import Derived.Test.YtlnkdnmeikpckaaStD
namespace Go.Proofs.Ytlnkdnmeikpckaa
open Go.RowKit

section
variable {w : World} {sb B n : Nat} {fl tl ml gl el dl il : Value} {F : Nat → Value}

set_option maxRecDepth 100000 in
set_option maxHeartbeats 1600000 in
theorem host_ok (A C : Option Addr) (np c nr d : Nat) (v u : Nat → UInt8) (s : ByteArray) (hb : Blk w sb 95 (stCells fl tl ml gl el dl il)) (hown : Own w B 36 6 AnyV fl n F) (hn : n < 65536) (hB : B ≤ w.heap.size) (hA : TSl w A np c v) (hC : TSl w C nr d u) (h1 : badT v np = false) (h2 : badT u nr = false) :
    Calls Try.prog 29 #[.pointer (some ⟨sb, 0, none⟩), .string s, .agg #[.slice A np c, .slice C nr d]] w fun e w' => e = .returned (.tuple #[.int .i64 (n : Int), .int .i64 0]) ∧ Added w w' sb B n fl tl ml gl el dl il F np v nr u true s 0 0 := by
  have hka : Kept S0 w (w.alloc (.cells #[.slice A np c, .slice C nr d] 24)) := (Kept.refl S0 w).alloc _
  have hX := Blk.new w 24 #[.slice A np c, .slice C nr d]
  have x0 := hX.cell 0
  have x1 := hX.cell 1
  have HB1 := Lib.hid (hka.blk hb (fun x => x))
  have HO1 := Lib.hid (hown.kept hka (fun _ _ x => x))
  have HA := Lib.hid (hA.kept hka)
  have HC := Lib.hid (hC.kept hka)
  have HK := Lib.hid hka
  have hsz : (w.alloc (.cells #[.slice A np c, .slice C nr d] 24)).heap.size = w.heap.size + 1 := by simp
  have hB1 : B ≤ (w.alloc (.cells #[.slice A np c, .slice C nr d] 24)).heap.size := Nat.le_trans hB hka.size
  have HSZ := Lib.hid hsz
  have HB2 := Lib.hid hB1
  clear hb hown hA hC hka hX hsz hB1 hB
  go_enter Try.func29, Try.ntmps29
  go_wp2_with fail
  refine (addfunc_ok A C np c nr d v u true s 0 0 HB1.out HO1.out hn HB2.out HA.out HC.out h1 h2).mono ?_
  rintro e w2 ⟨rfl, had⟩
  have HFIN := Lib.hid (show Added w w2 sb B n fl tl ml gl el dl il F np v nr u true s 0 0 from by
    obtain ⟨⟨fl', yA, yc, zA, zc, q1, q2, q3, q4, q5⟩, qk⟩ := had
    have hz := HSZ.out
    refine ⟨⟨fl', yA, yc, zA, zc, q1, q2, q3.mono (by omega), q4.mono (by omega), q5.imp id (fun ⟨g, a, b⟩ => ⟨g, a, by omega⟩)⟩, (HK.out.of0 _).trans qk⟩)
  clear had h1 h2 x0 x1
  go_wp2_with fail
  go_ret2
  exact ⟨rfl, HFIN.out⟩

/-- A function of a store. -/
structure FnAt (w : World) (F : Nat → Value) (a : Nat) (A : Option Addr) (np c : Nat) (v : Nat → UInt8) (C : Option Addr) (nr d : Nat) (u : Nat → UInt8) (h : Bool) (s : ByteArray) (i b : Int) : Prop where
  f0 : F (a * 6) = .slice A np c
  f1 : F (a * 6 + 1) = .slice C nr d
  f2 : F (a * 6 + 2) = .bool h
  f3 : F (a * 6 + 3) = .string s
  f4 : F (a * 6 + 4) = .int .i64 i
  f5 : F (a * 6 + 5) = .int .i64 b
  p : TSl w A np c v
  r : TSl w C nr d u

theorem FnAt.kept {w' : World} {a : Nat} {A : Option Addr} {np c : Nat} {v : Nat → UInt8} {C : Option Addr} {nr d : Nat} {u : Nat → UInt8} {h : Bool} {s : ByteArray} {i b : Int} (x : FnAt w F a A np c v C nr d u h s i b) (hk : Kept S0 w w') : FnAt w' F a A np c v C nr d u h s i b :=
  ⟨x.f0, x.f1, x.f2, x.f3, x.f4, x.f5, x.p.kept hk, x.r.kept hk⟩

theorem Own.rowcell {w : World} {base e size : Nat} {Q : Value → Prop} {n : Nat} {F : Nat → Value} {g c : Nat} (h : Own w base e size Q (.slice (some ⟨g, 0, none⟩) n c) n F) {j : Nat} (hj : j < n * size) : w.cell? ⟨g, j, none⟩ = some (F j) := by
  rcases h with ⟨e, _⟩ | ⟨g', cap, fr, e, h1, h2, h3, h4, h5, h6⟩
  · cases e
  · cases e
    rw [← h5 j hj]
    exact h4.cell (Nat.lt_of_lt_of_le hj (Nat.mul_le_mul_right _ h2))

theorem Own.is_some {w : World} {base e size : Nat} {Q : Value → Prop} {n : Nat} {F : Nat → Value} {v : Value} (h : Own w base e size Q v n F) (hn : 0 < n) : ∃ g c, v = .slice (some ⟨g, 0, none⟩) n c ∧ base ≤ g ∧ n ≤ c := by
  rcases h with ⟨_, rfl⟩ | ⟨g, cap, fr, e, h1, h2, h3, h4, h5, h6⟩
  · omega
  · exact ⟨g, cap, e, h1, h2⟩

set_option maxRecDepth 100000 in
set_option maxHeartbeats 3200000 in
theorem getfunc_in (a : Nat) (A C : Option Addr) (np c nr d : Nat) (v u : Nat → UInt8) (h : Bool) (s : ByteArray) (i b : Int) (hb : Blk w sb 95 (stCells fl tl ml gl el dl il)) (hown : Own w B 36 6 AnyV fl n F) (hn : n ≤ 65536) (ha : a < n) (hF : FnAt w F a A np c v C nr d u h s i b) :
    Calls Try.prog 14 #[.pointer (some ⟨sb, 0, none⟩), .int .i64 (a : Int)] w fun e w' => ∃ y z, e = .returned (.tuple #[.agg #[y, z, .bool h, .string s, .int .i64 i, .int .i64 b], .int .i64 0]) ∧ Own w' w.heap.size 37 1 IsByte y np (byteV v) ∧ Own w' w.heap.size 37 1 IsByte z nr (byteV u) ∧ Kept S0 w w' := by
  obtain ⟨g, fc, hfl, _, _⟩ := hown.is_some (by omega)
  subst hfl
  have hka : Kept S0 w (w.alloc (.cells #[.slice none 0 0, .slice none 0 0, .bool false, .string { data := #[] }, .int .i64 0, .int .i64 0] 36)) := (Kept.refl S0 w).alloc _
  have hb1 := hka.blk hb (fun x => x)
  have hown1 := hown.kept hka (fun _ _ x => x)
  have HR := Lib.hid (Blk.new w 36 #[.slice none 0 0, .slice none 0 0, .bool false, .string { data := #[] }, .int .i64 0, .int .i64 0])
  have c0 := hb1.cell 0
  have c1 := hb1.cell 1
  have HF := Lib.hid (hF.kept hka)
  have HO := Lib.hid hown1
  have HK := Lib.hid hka
  generalize hwa : w.alloc (.cells #[.slice none 0 0, .slice none 0 0, .bool false, .string { data := #[] }, .int .i64 0, .int .i64 0] 36) = wa at *
  have hwsz : wa.heap.size = w.heap.size + 1 := by rw [← hwa]; simp
  have HWS := Lib.hid hwsz
  clear hb hown hka hb1 hown1 hF hwsz
  go_enter Try.func14, Try.ntmps14
  go_wp2_with fail
  refine (off_made _ _ c0).mono ?_
  rintro e w1 ⟨rfl, rfl⟩
  go_wp2_with fail
  refine (at_FUNC_in a g c1 hn ha).mono ?_
  rintro e w1 ⟨rfl, rfl⟩
  have g0 := (HO.out.rowcell (j := a * 6) (by omega)).trans (congrArg some HF.out.f0)
  have g1 := (HO.out.rowcell (j := a * 6 + 1) (by omega)).trans (congrArg some HF.out.f1)
  have g2 := (HO.out.rowcell (j := a * 6 + 2) (by omega)).trans (congrArg some HF.out.f2)
  have g3 := (HO.out.rowcell (j := a * 6 + 3) (by omega)).trans (congrArg some HF.out.f3)
  have g4 := (HO.out.rowcell (j := a * 6 + 4) (by omega)).trans (congrArg some HF.out.f4)
  have g5 := (HO.out.rowcell (j := a * 6 + 5) (by omega)).trans (congrArg some HF.out.f5)
  go_wp2_with fail
  have hk1 : Kept S0 wa (wa.alloc (.cells #[.slice A np c, .slice C nr d, .bool h, .string s, .int .i64 i, .int .i64 b] 36)) := (Kept.refl S0 wa).alloc _
  have HX := Lib.hid (Blk.new wa 36 #[.slice A np c, .slice C nr d, .bool h, .string s, .int .i64 i, .int .i64 b])
  have HF1 := Lib.hid (HF.out.kept hk1)
  have HK1 := Lib.hid hk1
  clear g0 g1 g2 g3 g4 g5 c0 c1 hk1
  refine (own_any A np c v C nr d u _ HF1.out.p HF1.out.r).mono ?_
  rintro e w2 ⟨y, z, rfl, hy, hz, _, hk2⟩
  obtain ⟨yA, yc, hye, _, _, _⟩ := hy.out
  obtain ⟨zA, zc, hze, _, _, _⟩ := hz.out
  subst hye hze
  have hx2 := hk2.blk HX.out (fun x => x)
  have hr2 := hk2.blk (HK1.out.blk HR.out (fun x => x)) (fun x => x)
  have hwb : (wa.alloc (.cells #[.slice A np c, .slice C nr d, .bool h, .string s, .int .i64 i, .int .i64 b] 36)).heap.size = wa.heap.size + 1 := by simp
  have HWB := Lib.hid hwb
  generalize hbx : wa.heap.size = bx at *
  generalize hrb : w.heap.size = rb at *
  have hlt : rb < bx := by have := HWS.out; omega
  have t0 := hx2.cell 0
  have t1 := hx2.cell 1
  have f0 := hx2.frozen 0
  have f1 := hx2.frozen 1
  have hs2 : Kept (S1 bx) w2 ((w2.setCell ⟨bx, 0, none⟩ (.slice yA np yc)).setCell ⟨bx, 1, none⟩ (.slice zA nr zc)) := ((Kept.refl (S1 bx) w2).setCell (p := ⟨bx, 0, none⟩) (.inl rfl) _).setCell (p := ⟨bx, 1, none⟩) (.inl rfl) _
  have HR3 := Lib.hid (hs2.blk hr2 (fun e => by have e' : rb = bx := e; omega))
  have HX3 := Lib.hid (show Blk ((w2.setCell ⟨bx, 0, none⟩ (.slice yA np yc)).setCell ⟨bx, 1, none⟩ (.slice zA nr zc)) bx 36 #[.slice yA np yc, .slice zA nr zc, .bool h, .string s, .int .i64 i, .int .i64 b] from (hx2.set_ 0 _).set_ 1 _)
  have HY := Lib.hid (hy.kept hs2 (fun g hg e => by have e' : g = bx := e; have h1 := (hy.lt g hg).1; have := HWB.out; omega))
  have HZ := Lib.hid (hz.kept hs2 (fun g hg e => by have e' : g = bx := e; have h1 := (hz.lt g hg).1; have := HWB.out; omega))
  have HKK := Lib.hid (((HK.out.then0 HK1.out).then0 hk2).trans_ hs2 (fun i e => .inr (by have e' : i = bx := e; omega)))
  clear hx2 hr2 hwb hs2 hy hz hk2
  have y0 : ((w2.setCell ⟨bx, 0, none⟩ (.slice yA np yc)).setCell ⟨bx, 1, none⟩ (.slice zA nr zc)).cell? ⟨bx, 0, none⟩ = some (.slice yA np yc) := HX3.out.cell 0
  have y1 : ((w2.setCell ⟨bx, 0, none⟩ (.slice yA np yc)).setCell ⟨bx, 1, none⟩ (.slice zA nr zc)).cell? ⟨bx, 1, none⟩ = some (.slice zA nr zc) := HX3.out.cell 1
  have y2 : ((w2.setCell ⟨bx, 0, none⟩ (.slice yA np yc)).setCell ⟨bx, 1, none⟩ (.slice zA nr zc)).cell? ⟨bx, 2, none⟩ = some (.bool h) := HX3.out.cell 2
  have y3 : ((w2.setCell ⟨bx, 0, none⟩ (.slice yA np yc)).setCell ⟨bx, 1, none⟩ (.slice zA nr zc)).cell? ⟨bx, 3, none⟩ = some (.string s) := HX3.out.cell 3
  have y4 : ((w2.setCell ⟨bx, 0, none⟩ (.slice yA np yc)).setCell ⟨bx, 1, none⟩ (.slice zA nr zc)).cell? ⟨bx, 4, none⟩ = some (.int .i64 i) := HX3.out.cell 4
  have y5 : ((w2.setCell ⟨bx, 0, none⟩ (.slice yA np yc)).setCell ⟨bx, 1, none⟩ (.slice zA nr zc)).cell? ⟨bx, 5, none⟩ = some (.int .i64 b) := HX3.out.cell 5
  have r0 : ((w2.setCell ⟨bx, 0, none⟩ (.slice yA np yc)).setCell ⟨bx, 1, none⟩ (.slice zA nr zc)).cell? ⟨rb, 0, none⟩ = some (.slice none 0 0) := HR3.out.cell 0
  have q0 : ((w2.setCell ⟨bx, 0, none⟩ (.slice yA np yc)).setCell ⟨bx, 1, none⟩ (.slice zA nr zc)).frozen? ⟨rb, 0, none⟩ = false := HR3.out.frozen 0
  have r1 : ((w2.setCell ⟨bx, 0, none⟩ (.slice yA np yc)).setCell ⟨bx, 1, none⟩ (.slice zA nr zc)).cell? ⟨rb, 1, none⟩ = some (.slice none 0 0) := HR3.out.cell 1
  have q1 : ((w2.setCell ⟨bx, 0, none⟩ (.slice yA np yc)).setCell ⟨bx, 1, none⟩ (.slice zA nr zc)).frozen? ⟨rb, 1, none⟩ = false := HR3.out.frozen 1
  have r2 : ((w2.setCell ⟨bx, 0, none⟩ (.slice yA np yc)).setCell ⟨bx, 1, none⟩ (.slice zA nr zc)).cell? ⟨rb, 2, none⟩ = some (.bool false) := HR3.out.cell 2
  have q2 : ((w2.setCell ⟨bx, 0, none⟩ (.slice yA np yc)).setCell ⟨bx, 1, none⟩ (.slice zA nr zc)).frozen? ⟨rb, 2, none⟩ = false := HR3.out.frozen 2
  have r3 : ((w2.setCell ⟨bx, 0, none⟩ (.slice yA np yc)).setCell ⟨bx, 1, none⟩ (.slice zA nr zc)).cell? ⟨rb, 3, none⟩ = some (.string { data := #[] }) := HR3.out.cell 3
  have q3 : ((w2.setCell ⟨bx, 0, none⟩ (.slice yA np yc)).setCell ⟨bx, 1, none⟩ (.slice zA nr zc)).frozen? ⟨rb, 3, none⟩ = false := HR3.out.frozen 3
  have r4 : ((w2.setCell ⟨bx, 0, none⟩ (.slice yA np yc)).setCell ⟨bx, 1, none⟩ (.slice zA nr zc)).cell? ⟨rb, 4, none⟩ = some (.int .i64 0) := HR3.out.cell 4
  have q4 : ((w2.setCell ⟨bx, 0, none⟩ (.slice yA np yc)).setCell ⟨bx, 1, none⟩ (.slice zA nr zc)).frozen? ⟨rb, 4, none⟩ = false := HR3.out.frozen 4
  have r5 : ((w2.setCell ⟨bx, 0, none⟩ (.slice yA np yc)).setCell ⟨bx, 1, none⟩ (.slice zA nr zc)).cell? ⟨rb, 5, none⟩ = some (.int .i64 0) := HR3.out.cell 5
  have q5 : ((w2.setCell ⟨bx, 0, none⟩ (.slice yA np yc)).setCell ⟨bx, 1, none⟩ (.slice zA nr zc)).frozen? ⟨rb, 5, none⟩ = false := HR3.out.frozen 5
  go_wp2_with fail
  generalize (w2.setCell ⟨bx, 0, none⟩ (.slice yA np yc)).setCell ⟨bx, 1, none⟩ (.slice zA nr zc) = w3 at *
  have hR3 := HR3.out
  have hR4 : Blk ((((((w3.setCell ⟨rb, 0, none⟩ (.slice yA np yc)).setCell ⟨rb, 1, none⟩ (.slice zA nr zc)).setCell ⟨rb, 2, none⟩ (.bool h)).setCell ⟨rb, 3, none⟩ (.string s)).setCell ⟨rb, 4, none⟩ (.int .i64 i)).setCell ⟨rb, 5, none⟩ (.int .i64 b)) rb 36 #[.slice yA np yc, .slice zA nr zc, .bool h, .string s, .int .i64 i, .int .i64 b] := (((((hR3.set_ 0 (.slice yA np yc)).set_ 1 (.slice zA nr zc)).set_ 2 (.bool h)).set_ 3 (.string s)).set_ 4 (.int .i64 i)).set_ 5 (.int .i64 b)
  have hk4 : Kept (S1 rb) w3 ((((((w3.setCell ⟨rb, 0, none⟩ (.slice yA np yc)).setCell ⟨rb, 1, none⟩ (.slice zA nr zc)).setCell ⟨rb, 2, none⟩ (.bool h)).setCell ⟨rb, 3, none⟩ (.string s)).setCell ⟨rb, 4, none⟩ (.int .i64 i)).setCell ⟨rb, 5, none⟩ (.int .i64 b)) := ((((((Kept.refl (S1 rb) w3).setCell (p := ⟨rb, 0, none⟩) (.inl rfl) (.slice yA np yc)).setCell (p := ⟨rb, 1, none⟩) (.inl rfl) (.slice zA nr zc)).setCell (p := ⟨rb, 2, none⟩) (.inl rfl) (.bool h)).setCell (p := ⟨rb, 3, none⟩) (.inl rfl) (.string s)).setCell (p := ⟨rb, 4, none⟩) (.inl rfl) (.int .i64 i)).setCell (p := ⟨rb, 5, none⟩) (.inl rfl) (.int .i64 b)
  have u0 := hR4.cell 0
  have u1 := hR4.cell 1
  have u2 := hR4.cell 2
  have u3 := hR4.cell 3
  have u4 := hR4.cell 4
  have u5 := hR4.cell 5
  have HY4 := Lib.hid (HY.out.kept hk4 (fun g hg e => by have e' : g = rb := e; have h1 := (HY.out.lt g hg).1; have := HWB.out; omega))
  have HZ4 := Lib.hid (HZ.out.kept hk4 (fun g hg e => by have e' : g = rb := e; have h1 := (HZ.out.lt g hg).1; have := HWB.out; omega))
  have HK4 := Lib.hid (HKK.out.trans_ hk4 (fun i e => .inr (by have e' : i = rb := e; omega)))
  clear hR3 hR4 hk4
  exact bodyPost_ret (v := .tuple #[.agg #[.slice yA np yc, .slice zA nr zc, .bool h, .string s, .int .i64 i, .int .i64 b], .int .i64 0]) (by simp [results, Try.results14, go_sem, u0, u1, u2, u3, u4, u5]) rfl ⟨_, _, rfl, HY4.out.mono (by have := HWB.out; omega), HZ4.out.mono (by have := HWB.out; omega), HK4.out⟩

set_option maxRecDepth 100000 in
set_option maxHeartbeats 1600000 in
theorem getfunc_out (a : Int) (hb : Blk w sb 95 (stCells fl tl ml gl el dl il)) (hown : Own w B 36 6 AnyV fl n F) (hn : n ≤ 65536) (ha : a < 0 ∨ (n : Int) ≤ a) :
    Calls Try.prog 14 #[.pointer (some ⟨sb, 0, none⟩), .int .i64 a] w fun e w' => e = .returned (.tuple #[.agg #[.slice none 0 0, .slice none 0 0, .bool false, .string { data := #[] }, .int .i64 0, .int .i64 0], .int .i64 11]) ∧ Kept S0 w w' := by
  obtain ⟨fA, fc, hfl, _, _, _⟩ := hown.out
  subst hfl
  have hka : Kept S0 w (w.alloc (.cells #[.slice none 0 0, .slice none 0 0, .bool false, .string { data := #[] }, .int .i64 0, .int .i64 0] 36)) := (Kept.refl S0 w).alloc _
  have hb1 := hka.blk hb (fun x => x)
  have hr := Blk.new w 36 #[.slice none 0 0, .slice none 0 0, .bool false, .string { data := #[] }, .int .i64 0, .int .i64 0]
  have c0 := hb1.cell 0
  have c1 := hb1.cell 1
  have HK := Lib.hid hka
  generalize hrb : w.heap.size = rb at *
  generalize hwa : w.alloc (.cells #[.slice none 0 0, .slice none 0 0, .bool false, .string { data := #[] }, .int .i64 0, .int .i64 0] 36) = wa at *
  have hk4 := ((((((Kept.refl (S1 rb) wa).setCell (p := ⟨rb, 0, none⟩) (.inl rfl) (.slice none 0 0)).setCell (p := ⟨rb, 1, none⟩) (.inl rfl) (.slice none 0 0)).setCell (p := ⟨rb, 2, none⟩) (.inl rfl) (.bool false)).setCell (p := ⟨rb, 3, none⟩) (.inl rfl) (.string { data := #[] })).setCell (p := ⟨rb, 4, none⟩) (.inl rfl) (.int .i64 0)).setCell (p := ⟨rb, 5, none⟩) (.inl rfl) (.int .i64 0)
  have hR4 : Blk ((((((wa.setCell ⟨rb, 0, none⟩ (.slice none 0 0)).setCell ⟨rb, 1, none⟩ (.slice none 0 0)).setCell ⟨rb, 2, none⟩ (.bool false)).setCell ⟨rb, 3, none⟩ (.string { data := #[] })).setCell ⟨rb, 4, none⟩ (.int .i64 0)).setCell ⟨rb, 5, none⟩ (.int .i64 0)) rb 36 #[.slice none 0 0, .slice none 0 0, .bool false, .string { data := #[] }, .int .i64 0, .int .i64 0] := (((((hr.set_ 0 (.slice none 0 0)).set_ 1 (.slice none 0 0)).set_ 2 (.bool false)).set_ 3 (.string { data := #[] })).set_ 4 (.int .i64 0)).set_ 5 (.int .i64 0)
  have u0 := hR4.cell 0
  have u1 := hR4.cell 1
  have u2 := hR4.cell 2
  have u3 := hR4.cell 3
  have u4 := hR4.cell 4
  have u5 := hR4.cell 5
  have HK4 := Lib.hid (hka.trans_ hk4 (fun i e => .inr (by have e' : i = rb := e; omega)))
  clear hR4
  clear hb hown hka hb1 hk4
  have r0 := hr.cell 0
  have q0 := hr.frozen 0
  have r1 := hr.cell 1
  have q1 := hr.frozen 1
  have r2 := hr.cell 2
  have q2 := hr.frozen 2
  have r3 := hr.cell 3
  have q3 := hr.frozen 3
  have r4 := hr.cell 4
  have q4 := hr.frozen 4
  have r5 := hr.cell 5
  have q5 := hr.frozen 5
  go_enter Try.func14, Try.ntmps14
  go_wp2_with fail
  refine (off_made _ _ c0).mono ?_
  rintro e w1 ⟨rfl, rfl⟩
  go_wp2_with fail
  refine (at_FUNC_out a fA c1 hn ha).mono ?_
  rintro e w1 ⟨rfl, rfl⟩
  go_wp2_with fail
  exact bodyPost_ret (v := .tuple #[.agg #[.slice none 0 0, .slice none 0 0, .bool false, .string { data := #[] }, .int .i64 0, .int .i64 0], .int .i64 11]) (by simp [results, Try.results14, go_sem, u0, u1, u2, u3, u4, u5]) rfl ⟨rfl, HK4.out⟩
end
end Go.Proofs.Ytlnkdnmeikpckaa
