/- An act done to a checker and to the document's: Open, Label. No condition. -/
import Derived.Test.YtpbaojjcbpfdaaaStkBq
namespace Go.Proofs.Ytpbaojjcbpfdaaa
open Go.RowKit

theorem own_write {w : World} {b n c g j : Nat} {F : Nat → Value} (h : Own w b 30 1 IsByte (.slice (some ⟨g, 0, none⟩) n c) n F) : ∃ F', Own (w.setCell ⟨g, j, none⟩ (.int .u8 1)) b 30 1 IsByte (.slice (some ⟨g, 0, none⟩) n c) n F' := by
  rcases h with ⟨h, _⟩ | ⟨g1, c1, fr, h, h2, h3, h4, h5, h6, h7⟩
  · cases h
  · cases h
    refine ⟨_, .inr ⟨g, c, _, rfl, h2, h3, h4, h5.set j (.int .u8 1), fun _ _ => rfl, fun i hi => ?_⟩⟩
    show IsByte (if i = j then _ else fr i)
    split
    · exact ⟨1, rfl⟩
    · exact h7 i hi

theorem Own.cellAt {w : World} {b n c g j : Nat} {F : Nat → Value} (h : Own w b 30 1 IsByte (.slice (some ⟨g, 0, none⟩) n c) n F) (hj : j < n) : w.cell? ⟨g, j, none⟩ = some (F j) ∧ w.frozen? ⟨g, j, none⟩ = false := by
  rcases h with ⟨h, _⟩ | ⟨g1, c1, fr, h, h2, h3, h4, h5, h6, h7⟩
  · cases h
  · cases h
    exact ⟨by rw [← h6 j (by omega)]; exact h5.cell (by omega), h5.frozen j⟩

theorem Own.some_of {w : World} {b e s n c : Nat} {Q : Value → Prop} {A : Option Addr} {F : Nat → Value} (h : Own w b e s Q (.slice A n c) n F) (hn : 0 < n) : ∃ g, A = some ⟨g, 0, none⟩ := by
  rcases h with ⟨_, h0⟩ | ⟨g, c1, fr, h, _⟩
  · omega
  · cases h; exact ⟨g, rfl⟩

section
variable {X Z Z' : Nat → Prop} {w w' : World} {sb base : Nat} {s m : St} {mv : Value}

set_option maxRecDepth 100000 in
set_option maxHeartbeats 6400000 in
theorem both_7 {A B : Option Addr} {o : Int} {n mi c k e : Nat} {v u : Nat → UInt8} {t : UInt8} {d : Int} (hd : (d == 0) = false ∧ (d == 1) = false ∧ (d == 2) = false ∧ (d == 3) = false ∧ (d == 4) = false ∧ (d == 5) = false ∧ (d == 6) = false) (hn32 : n ≤ 4294967295) (hr : Ready X Z w sb base s m mv A mi c v B k e u) : Calls Try.prog 20 #[.pointer (some ⟨sb, 0, none⟩), mv, .agg #[.int .i64 d, .int .u16 o, .int .u32 (n : Int), .int .u8 (t.toNat : Int), .slice A mi c, .slice B k e]] w fun e' w' => Done X Z w sb base s m s m e' w' := by
  obtain ⟨V, cv, Fa, cf, hmv⟩ : ∃ V cv Fa cf, mv = .agg #[.slice V m.n cv, .slice Fa m.k cf] := by
    obtain ⟨V, cv, Fa, cf, G, h, _⟩ := hr.mod.ex
    exact ⟨V, cv, Fa, cf, h⟩
  subst hmv
  have hkd : Kept S0 w (((w.alloc (.cells #[.slice V m.n cv, .slice Fa m.k cf] 45)).alloc (.cells #[.int .i64 d, .int .u16 o, .int .u32 (n : Int), .int .u8 (t.toNat : Int), .slice A mi c, .slice B k e] 50)).alloc (.cells #[.slice none 0 0, .slice none 0 0] 45)) := (((Kept.refl S0 w).alloc _).alloc _).alloc _
  have hbm : Blk (((w.alloc (.cells #[.slice V m.n cv, .slice Fa m.k cf] 45)).alloc (.cells #[.int .i64 d, .int .u16 o, .int .u32 (n : Int), .int .u8 (t.toNat : Int), .slice A mi c, .slice B k e] 50)).alloc (.cells #[.slice none 0 0, .slice none 0 0] 45)) w.heap.size 45 #[.slice V m.n cv, .slice Fa m.k cf] := ((Blk.new w _ _).alloc _).alloc _
  have hba : Blk (((w.alloc (.cells #[.slice V m.n cv, .slice Fa m.k cf] 45)).alloc (.cells #[.int .i64 d, .int .u16 o, .int .u32 (n : Int), .int .u8 (t.toNat : Int), .slice A mi c, .slice B k e] 50)).alloc (.cells #[.slice none 0 0, .slice none 0 0] 45)) (w.heap.size + 1) 50 #[.int .i64 d, .int .u16 o, .int .u32 (n : Int), .int .u8 (t.toNat : Int), .slice A mi c, .slice B k e] := (Blk.new1 w _ _ _).alloc _
  have hs2 : ((w.alloc (.cells #[.slice V m.n cv, .slice Fa m.k cf] 45)).alloc (.cells #[.int .i64 d, .int .u16 o, .int .u32 (n : Int), .int .u8 (t.toNat : Int), .slice A mi c, .slice B k e] 50)).heap.size = w.heap.size + 1 + 1 := by simp
  have hsz : (((w.alloc (.cells #[.slice V m.n cv, .slice Fa m.k cf] 45)).alloc (.cells #[.int .i64 d, .int .u16 o, .int .u32 (n : Int), .int .u8 (t.toNat : Int), .slice A mi c, .slice B k e] 50)).alloc (.cells #[.slice none 0 0, .slice none 0 0] 45)).heap.size = w.heap.size + 3 := by simp
  have hbr : Blk (((w.alloc (.cells #[.slice V m.n cv, .slice Fa m.k cf] 45)).alloc (.cells #[.int .i64 d, .int .u16 o, .int .u32 (n : Int), .int .u8 (t.toNat : Int), .slice A mi c, .slice B k e] 50)).alloc (.cells #[.slice none 0 0, .slice none 0 0] 45)) (w.heap.size + 1 + 1) 45 #[.slice none 0 0, .slice none 0 0] := by
    have h := Blk.new ((w.alloc (.cells #[.slice V m.n cv, .slice Fa m.k cf] 45)).alloc (.cells #[.int .i64 d, .int .u16 o, .int .u32 (n : Int), .int .u8 (t.toNat : Int), .slice A mi c, .slice B k e] 50)) 45 #[.slice none 0 0, .slice none 0 0]
    rwa [hs2] at h
  have hS1 : StkIs (((w.alloc (.cells #[.slice V m.n cv, .slice Fa m.k cf] 45)).alloc (.cells #[.int .i64 d, .int .u16 o, .int .u32 (n : Int), .int .u8 (t.toNat : Int), .slice A mi c, .slice B k e] 50)).alloc (.cells #[.slice none 0 0, .slice none 0 0] 45)) sb base X (XL Z w.heap.size 3) s := hr.stk.box hkd (fun i hi => hi.elim .inl (fun e => .inr e.1)) (fun i hi => by
    rcases hi with e | e
    · have := hr.stk.zlt i e; rw [hsz]; omega
    · rw [hsz]; omega)
  have hM1 : ModIs (XL X w.heap.size 3) (((w.alloc (.cells #[.slice V m.n cv, .slice Fa m.k cf] 45)).alloc (.cells #[.int .i64 d, .int .u16 o, .int .u32 (n : Int), .int .u8 (t.toNat : Int), .slice A mi c, .slice B k e] 50)).alloc (.cells #[.slice none 0 0, .slice none 0 0] 45)) (.agg #[.slice V m.n cv, .slice Fa m.k cf]) m := hr.mod.step (loc_in 3 hkd)
  have hxlt := hr.stk.xlt
  obtain ⟨y0, y1, y2, y3, y4, y5, y6⟩ := hd
  have hA1 := hr.inn.kept (hkd.of0 _)
  have hB1 := hr.out.kept (hkd.of0 _)
  have a1 := hba.cell 1
  have a2 := hba.cell 2
  have a3 := hba.cell 3
  have a4 := hba.cell 4
  have a5 := hba.cell 5
  have m0 := hbm.cell 0
  have m1 := hbm.cell 1
  have HR := Lib.hid hr
  have HBA := Lib.hid hba
  have HBM := Lib.hid hbm
  have HBR := Lib.hid hbr
  have HS1 := Lib.hid hS1
  have HM1 := Lib.hid hM1
  have HKD := Lib.hid hkd
  have HA1 := Lib.hid hA1
  have HB1 := Lib.hid hB1
  clear hr hs2 hbm hba hbr hS1 hM1 hkd hA1 hB1
  go_enter Try.func20, Try.ntmps20
  go_wp2_with fail
  generalize (((w.alloc (.cells #[.slice V m.n cv, .slice Fa m.k cf] 45)).alloc (.cells #[.int .i64 d, .int .u16 o, .int .u32 (n : Int), .int .u8 (t.toNat : Int), .slice A mi c, .slice B k e] 50)).alloc (.cells #[.slice none 0 0, .slice none 0 0] 45)) = wd at *
  refine (label_is n hn32 HS1.out HR.out.swf).mono ?_
  rintro e1 w2 ⟨x, rfl, hox, hk2⟩
  obtain ⟨xA, xc, rfl, _, _, _⟩ := hox.out
  have hS2 : StkIs w2 sb base X (fun i => XL Z w.heap.size 3 i ∨ (wd.heap.size ≤ i ∧ i < w2.heap.size)) s := HS1.out.box hk2 (fun i hi => hi.elim .inl (fun e => .inr e.1)) (fun i hi => hi.elim (fun e => Nat.lt_of_lt_of_le (HS1.out.zlt i e) hk2.size) (fun e => e.2))
  have hM2 : ModIs (fun i => XL X w.heap.size 3 i ∨ (wd.heap.size ≤ i ∧ i < w2.heap.size)) w2 (.agg #[.slice V m.n cv, .slice Fa m.k cf]) m := HM1.out.step ⟨hk2.of0 _, fun i hi => hi.elim .inl (fun e => .inr e.1)⟩
  have hba := hk2.blk HBA.out (fun x => x)
  have hbm := hk2.blk HBM.out (fun x => x)
  have hbr := hk2.blk HBR.out (fun x => x)
  have a2 := hba.cell 2
  have m0 := hbm.cell 0
  have m1 := hbm.cell 1
  have ML := Lib.hid (mlabel_is n hn32 hM2 HR.out.mwf)
  have HK2 := Lib.hid hk2
  have HS2 := Lib.hid hS2
  have HM2 := Lib.hid hM2
  have HB2 := Lib.hid (And.intro hbm hbr)
  have HOX2 := Lib.hid hox
  clear hk2 hS2 hM2 hba hbm hbr hox a1 a3 a4 a5 HBA HBM HBR HS1 HM1
  go_wp2_with fail
  refine ML.out.mono ?_
  rintro e1 w3 ⟨C, cc, rfl, hC, hk3⟩
  have hox3 := HOX2.out.kept hk3 (fun _ _ x => x)
  have hlen : s.labN n ≤ 140737488351232 := by
    unfold St.labN
    split
    · obtain ⟨lv, lf, F, _, _, hF⟩ := HR.out.stk.ex
      obtain ⟨_, _, _, _, _, q1, q2⟩ := hF (s.k - 1 - n) (by omega)
      split
      · exact q1.le
      · exact q2.le
    · omega
  obtain ⟨_, _, hxe, hxC⟩ := came_own (S := S0) hox3 (fun _ _ x => x) hlen
  cases hxe
  have TY := Lib.hid (types_is xA C (s.labN n) (m.labN n) xc cc (s.labV n) (m.labV n) w3 hxC hC)
  have HK3 := Lib.hid hk3
  have HOX3 := Lib.hid hox3
  have m0 := (hk3.blk HB2.out.1 (fun x => x)).cell 0
  have m1 := (hk3.blk HB2.out.1 (fun x => x)).cell 1
  clear hC hk3 hox3 hxC a2 ML
  go_wp2_with fail
  refine TY.out.mono ?_
  rintro e1 w4 ⟨bb, rfl, hbb, hk4⟩
  have hk24 := HK3.out.then0 hk4
  have HS4 := Lib.hid (HS2.out.kept0 hk24)
  have HM4 := Lib.hid (HM2.out.kept0 hk24)
  have hbm4 := hk24.blk HB2.out.1 (fun x => x)
  have HB4 := Lib.hid (And.intro hbm4 (hk24.blk HB2.out.2 (fun x => x)))
  have HOX := Lib.hid (HOX3.out.kept hk4 (fun _ _ x => x))
  have HK4 := Lib.hid ((HKD.out.then0 HK2.out).then0 hk24)
  have HBB := Lib.hid hbb
  have hszw : wd.heap.size ≤ w2.heap.size := HK2.out.size
  have hgr : ∀ i, (Value.slice xA (s.labN n) xc).ownBlock = some i → wd.heap.size ≤ i ∧ i < w2.heap.size := fun i hi => HOX2.out.lt i hi
  have HGR := Lib.hid hgr
  clear hbb hk4 hk24 hbm4 m0 m1 TY HS2 HM2 hgr
  have key : ∀ (wr : World), Kept (fun i => (Value.slice xA (s.labN n) xc).ownBlock = some i) w4 wr → ∃ wf, wf = (wr.setCell ⟨w.heap.size + 1 + 1, 0, none⟩ (.slice V m.n cv)).setCell ⟨w.heap.size + 1 + 1, 1, none⟩ (.slice Fa m.k cf) ∧ StkIs wf sb base X Z s ∧ Stp X X w wf ∧ ModIs X wf (.agg #[.slice V m.n cv, .slice Fa m.k cf]) m ∧ Blk wf (w.heap.size + 1 + 1) 45 #[.slice V m.n cv, .slice Fa m.k cf] ∧ Blk wr w.heap.size 45 #[.slice V m.n cv, .slice Fa m.k cf] ∧ Blk wr (w.heap.size + 1 + 1) 45 #[.slice none 0 0, .slice none 0 0] := fun wr hkl => by
    have hS5 : StkIs wr sb base X (XL Z w.heap.size 3) s := HS4.out.write hkl (fun i hi => ⟨.inr (HGR.out i hi), fun e => by have := hxlt i e; have := (HGR.out i hi).1; omega⟩) (fun i hi => .inl hi)
    have hM5 : ModIs (XL X w.heap.size 3) wr (.agg #[.slice V m.n cv, .slice Fa m.k cf]) m := HM4.out.step ⟨hkl.mono (fun i hi => .inr (HGR.out i hi)), fun i hi => .inl (.inl hi)⟩
    have hst : Stp X X w wr := ⟨Kept.trans_ (HK4.out.of0 X) hkl (fun i hi => .inr (by have := (HGR.out i hi).1; omega)), fun _ h => .inl h⟩
    have hnb : ∀ b, b < wd.heap.size → ¬ (Value.slice xA (s.labN n) xc).ownBlock = some b := fun b hb e => by have := (HGR.out b e).1; omega
    have p1 := hkl.blk HB4.out.1 (hnb _ (by omega))
    have p2 := hkl.blk HB4.out.2 (hnb _ (by omega))
    obtain ⟨wf, q0, q1, q2, q3, q4⟩ := both_end rfl (by omega) hS5 hM5 hst (fun i hi e => by have := hxlt i hi; omega) p2
    exact ⟨wf, q0, q1, q2, q3, q4, p1, p2⟩
  have KEY := Lib.hid key
  clear key HS4 HM4 HB4
  cases bb with
  | false =>
    go_wp2_with fail
    go_loopw [37] (fun i wr => ∃ (j : Nat) (F : Nat → Value), i = .int .i64 (j : Int) ∧ j ≤ (s.labN n) ∧ Own wr wd.heap.size 30 1 IsByte (.slice xA (s.labN n) xc) (s.labN n) F ∧ Kept (fun i => (Value.slice xA (s.labN n) xc).ownBlock = some i) w4 wr) (fun i _ => (s.labN n) - (intOf i).toNat)
    case atStart => exact ⟨0, _, rfl, by omega, HOX.out, Kept.refl _ _⟩
    case round =>
      obtain ⟨j, F, rfl, hj, hox, hkl⟩ := hrel
      rcases Nat.lt_or_ge j ((s.labN n)) with hlt | hge
      · obtain ⟨g, hg⟩ := hox.some_of (by omega)
        subst hg
        obtain ⟨p1, p2⟩ := hox.cellAt hlt
        obtain ⟨F', hox'⟩ := own_write (j := j) hox
        have hji : (j : Int) < (((s.labN n) : Nat) : Int) := by omega
        have uj : IntKind.i64.wrap ((j : Int) + 1) = (j : Int) + 1 := IntWalk.i64_in _ (by omega)
        have HO2 := Lib.hid hox'
        have HKL := Lib.hid (hkl.setCell (p := ⟨g, j, none⟩) (.inl rfl) (.int .u8 1))
        clear hox hox' hkl 
        go_wp2_with fail
        go_roundw
        case rel => exact ⟨j + 1, F', by go_num, by omega, HO2.out, HKL.out⟩
        case measure => simp [intOf]; omega
      · obtain rfl : (s.labN n) = j := by omega
        obtain ⟨wf, hwf, q1, q2, q3, q4, p1, p2⟩ := KEY.out wr hkl
        have m0 := p1.cell 0
        have m1 := p1.cell 1
        have r0 := p2.cell 0
        have r1 := p2.cell 1
        have z0 := p2.frozen 0
        have z1 := p2.frozen 1
        have g0 := q4.cell 0
        have g1 := q4.cell 1
        have HQ := Lib.hid (And.intro q1 (And.intro q2 q3))
        have HF := Lib.hid hwf
        clear hox hkl q1 q2 q3 q4 hwf p1 p2
        go_wp2_with fail
        rw [← HF.out]
        exact bodyPost_ret (v := .tuple #[.agg #[.slice V m.n cv, .slice Fa m.k cf], .bool false]) (by simp [results, Try.results20, go_sem, g0, g1]) rfl ⟨_, _, X, rfl, fun e => HBB.out (by rw [e]) (by rw [e]), HQ.out⟩
  | true =>
    go_wp2_with fail
    go_loopw [37] (fun i wr => ∃ (j : Nat) (F : Nat → Value), i = .int .i64 (j : Int) ∧ j ≤ (s.labN n) ∧ Own wr wd.heap.size 30 1 IsByte (.slice xA (s.labN n) xc) (s.labN n) F ∧ Kept (fun i => (Value.slice xA (s.labN n) xc).ownBlock = some i) w4 wr) (fun i _ => (s.labN n) - (intOf i).toNat)
    case atStart => exact ⟨0, _, rfl, by omega, HOX.out, Kept.refl _ _⟩
    case round =>
      obtain ⟨j, F, rfl, hj, hox, hkl⟩ := hrel
      rcases Nat.lt_or_ge j ((s.labN n)) with hlt | hge
      · obtain ⟨g, hg⟩ := hox.some_of (by omega)
        subst hg
        obtain ⟨p1, p2⟩ := hox.cellAt hlt
        obtain ⟨F', hox'⟩ := own_write (j := j) hox
        have hji : (j : Int) < (((s.labN n) : Nat) : Int) := by omega
        have uj : IntKind.i64.wrap ((j : Int) + 1) = (j : Int) + 1 := IntWalk.i64_in _ (by omega)
        have HO2 := Lib.hid hox'
        have HKL := Lib.hid (hkl.setCell (p := ⟨g, j, none⟩) (.inl rfl) (.int .u8 1))
        clear hox hox' hkl 
        go_wp2_with fail
        go_roundw
        case rel => exact ⟨j + 1, F', by go_num, by omega, HO2.out, HKL.out⟩
        case measure => simp [intOf]; omega
      · obtain rfl : (s.labN n) = j := by omega
        obtain ⟨wf, hwf, q1, q2, q3, q4, p1, p2⟩ := KEY.out wr hkl
        have m0 := p1.cell 0
        have m1 := p1.cell 1
        have r0 := p2.cell 0
        have r1 := p2.cell 1
        have z0 := p2.frozen 0
        have z1 := p2.frozen 1
        have g0 := q4.cell 0
        have g1 := q4.cell 1
        have HQ := Lib.hid (And.intro q1 (And.intro q2 q3))
        have HF := Lib.hid hwf
        clear hox hkl q1 q2 q3 q4 hwf p1 p2
        go_wp2_with fail
        rw [← HF.out]
        exact bodyPost_ret (v := .tuple #[.agg #[.slice V m.n cv, .slice Fa m.k cf], .bool (s.labE n == m.labE n)]) (by simp [results, Try.results20, go_sem, g0, g1]) rfl ⟨_, _, X, rfl, fun e => by rw [e]; simp, HQ.out⟩

set_option maxRecDepth 100000 in
set_option maxHeartbeats 6400000 in
theorem both_4 {A B : Option Addr} {o : Int} {n mi c k e : Nat} {v u : Nat → UInt8} {t : UInt8} (hr : Ready X Z w sb base s m mv A mi c v B k e u) : Calls Try.prog 20 #[.pointer (some ⟨sb, 0, none⟩), mv, .agg #[.int .i64 4, .int .u16 o, .int .u32 (n : Int), .int .u8 (t.toNat : Int), .slice A mi c, .slice B k e]] w fun e' w' => Done X Z w sb base s m (s.open o mi v k u) (m.open o mi v k u) e' w' := by
  obtain ⟨V, cv, Fa, cf, hmv⟩ : ∃ V cv Fa cf, mv = .agg #[.slice V m.n cv, .slice Fa m.k cf] := by
    obtain ⟨V, cv, Fa, cf, G, h, _⟩ := hr.mod.ex
    exact ⟨V, cv, Fa, cf, h⟩
  subst hmv
  have hkd : Kept S0 w (((w.alloc (.cells #[.slice V m.n cv, .slice Fa m.k cf] 45)).alloc (.cells #[.int .i64 4, .int .u16 o, .int .u32 (n : Int), .int .u8 (t.toNat : Int), .slice A mi c, .slice B k e] 50)).alloc (.cells #[.slice none 0 0, .slice none 0 0] 45)) := (((Kept.refl S0 w).alloc _).alloc _).alloc _
  have hbm : Blk (((w.alloc (.cells #[.slice V m.n cv, .slice Fa m.k cf] 45)).alloc (.cells #[.int .i64 4, .int .u16 o, .int .u32 (n : Int), .int .u8 (t.toNat : Int), .slice A mi c, .slice B k e] 50)).alloc (.cells #[.slice none 0 0, .slice none 0 0] 45)) w.heap.size 45 #[.slice V m.n cv, .slice Fa m.k cf] := ((Blk.new w _ _).alloc _).alloc _
  have hba : Blk (((w.alloc (.cells #[.slice V m.n cv, .slice Fa m.k cf] 45)).alloc (.cells #[.int .i64 4, .int .u16 o, .int .u32 (n : Int), .int .u8 (t.toNat : Int), .slice A mi c, .slice B k e] 50)).alloc (.cells #[.slice none 0 0, .slice none 0 0] 45)) (w.heap.size + 1) 50 #[.int .i64 4, .int .u16 o, .int .u32 (n : Int), .int .u8 (t.toNat : Int), .slice A mi c, .slice B k e] := (Blk.new1 w _ _ _).alloc _
  have hs2 : ((w.alloc (.cells #[.slice V m.n cv, .slice Fa m.k cf] 45)).alloc (.cells #[.int .i64 4, .int .u16 o, .int .u32 (n : Int), .int .u8 (t.toNat : Int), .slice A mi c, .slice B k e] 50)).heap.size = w.heap.size + 1 + 1 := by simp
  have hsz : (((w.alloc (.cells #[.slice V m.n cv, .slice Fa m.k cf] 45)).alloc (.cells #[.int .i64 4, .int .u16 o, .int .u32 (n : Int), .int .u8 (t.toNat : Int), .slice A mi c, .slice B k e] 50)).alloc (.cells #[.slice none 0 0, .slice none 0 0] 45)).heap.size = w.heap.size + 3 := by simp
  have hbr : Blk (((w.alloc (.cells #[.slice V m.n cv, .slice Fa m.k cf] 45)).alloc (.cells #[.int .i64 4, .int .u16 o, .int .u32 (n : Int), .int .u8 (t.toNat : Int), .slice A mi c, .slice B k e] 50)).alloc (.cells #[.slice none 0 0, .slice none 0 0] 45)) (w.heap.size + 1 + 1) 45 #[.slice none 0 0, .slice none 0 0] := by
    have h := Blk.new ((w.alloc (.cells #[.slice V m.n cv, .slice Fa m.k cf] 45)).alloc (.cells #[.int .i64 4, .int .u16 o, .int .u32 (n : Int), .int .u8 (t.toNat : Int), .slice A mi c, .slice B k e] 50)) 45 #[.slice none 0 0, .slice none 0 0]
    rwa [hs2] at h
  have hS1 : StkIs (((w.alloc (.cells #[.slice V m.n cv, .slice Fa m.k cf] 45)).alloc (.cells #[.int .i64 4, .int .u16 o, .int .u32 (n : Int), .int .u8 (t.toNat : Int), .slice A mi c, .slice B k e] 50)).alloc (.cells #[.slice none 0 0, .slice none 0 0] 45)) sb base X (XL Z w.heap.size 3) s := hr.stk.box hkd (fun i hi => hi.elim .inl (fun e => .inr e.1)) (fun i hi => by
    rcases hi with e | e
    · have := hr.stk.zlt i e; rw [hsz]; omega
    · rw [hsz]; omega)
  have hM1 : ModIs (XL X w.heap.size 3) (((w.alloc (.cells #[.slice V m.n cv, .slice Fa m.k cf] 45)).alloc (.cells #[.int .i64 4, .int .u16 o, .int .u32 (n : Int), .int .u8 (t.toNat : Int), .slice A mi c, .slice B k e] 50)).alloc (.cells #[.slice none 0 0, .slice none 0 0] 45)) (.agg #[.slice V m.n cv, .slice Fa m.k cf]) m := hr.mod.step (loc_in 3 hkd)
  have hxlt := hr.stk.xlt
  have hA1 := hr.inn.kept (hkd.of0 _)
  have hB1 := hr.out.kept (hkd.of0 _)
  have a1 := hba.cell 1
  have a2 := hba.cell 2
  have a3 := hba.cell 3
  have a4 := hba.cell 4
  have a5 := hba.cell 5
  have m0 := hbm.cell 0
  have m1 := hbm.cell 1
  have HR := Lib.hid hr
  have HBA := Lib.hid hba
  have HBM := Lib.hid hbm
  have HBR := Lib.hid hbr
  have HS1 := Lib.hid hS1
  have HM1 := Lib.hid hM1
  have HKD := Lib.hid hkd
  have HA1 := Lib.hid hA1
  have HB1 := Lib.hid hB1
  clear hr hs2 hbm hba hbr hS1 hM1 hkd hA1 hB1
  go_enter Try.func20, Try.ntmps20
  go_wp2_with fail
  generalize (((w.alloc (.cells #[.slice V m.n cv, .slice Fa m.k cf] 45)).alloc (.cells #[.int .i64 4, .int .u16 o, .int .u32 (n : Int), .int .u8 (t.toNat : Int), .slice A mi c, .slice B k e] 50)).alloc (.cells #[.slice none 0 0, .slice none 0 0] 45)) = wd at *
  have hA0 : Came S0 wd A mi c v := HA1.out.mono (fun _ x => x.elim)
  have hmi := hA0.le
  refine (copyT_any A mi c v hA0).mono ?_
  rintro e1 w1 ⟨x, rfl, hox, hk1⟩
  obtain ⟨xA, xc, rfl, _, _, _⟩ := hox.out
  have hszw : wd.heap.size ≤ w1.heap.size := hk1.size
  have hgr : ∀ i, (Value.slice xA mi xc).ownBlock = some i → wd.heap.size ≤ i ∧ i < w1.heap.size := fun i hi => hox.lt i hi
  have hS1 : StkIs w1 sb base X (fun i => XL Z w.heap.size 3 i ∨ (wd.heap.size ≤ i ∧ i < w1.heap.size)) s := HS1.out.box hk1 (fun i hi => hi.elim .inl (fun e => .inr e.1)) (fun i hi => hi.elim (fun e => Nat.lt_of_lt_of_le (HS1.out.zlt i e) hk1.size) (fun e => e.2))
  have hM1 : ModIs (fun i => XL X w.heap.size 3 i ∨ (wd.heap.size ≤ i ∧ i < w1.heap.size)) w1 (.agg #[.slice V m.n cv, .slice Fa m.k cf]) m := HM1.out.step ⟨hk1.of0 _, fun i hi => hi.elim .inl (fun e => .inr e.1)⟩
  have hba := hk1.blk HBA.out (fun x => x)
  have hbm := hk1.blk HBM.out (fun x => x)
  have hbr := hk1.blk HBR.out (fun x => x)
  have a1 := hba.cell 1
  have a5 := hba.cell 5
  obtain ⟨_, _, hxe, hxC⟩ := came_own (S := X) hox (fun g hg e => by have := hxlt g e; have := (hgr g hg).1; omega) hA0.le
  cases hxe
  have OP := Lib.hid (open_is o xA B mi xc k e v u hS1 hxC ((HB1.out.kept (hk1.of0 _)).mono (fun _ x => x.elim)) HR.out.nstk (by have := HR.out.kstk; omega))
  have HK1 := Lib.hid hk1
  have HMM := Lib.hid hM1
  have HBB := Lib.hid (And.intro hba (And.intro hbm hbr))
  have HOX1 := Lib.hid hox
  have HGR := Lib.hid hgr
  clear hk1 hS1 hM1 hba hbm hbr hox hxC hA0 hgr a2 a3 a4 m0 m1 HS1 HM1 HBA HBM HBR
  go_wp2_with fail
  refine OP.out.mono ?_
  rintro e1 w2 ⟨rfl, X1, hS2, hst⟩
  have hx1 : ∀ i, X1 i → ¬ (w.heap.size ≤ i ∧ i < w1.heap.size) := fun i hi e => by
    rcases hst.sub i hi with h | h
    · have := hxlt i h; omega
    · omega
  have hxb : ∀ i, w.heap.size ≤ i → ¬ X i := fun i h1 h2 => by have := hxlt i h2; omega
  have hM2 : ModIs (fun i => XL X1 w.heap.size 3 i ∨ (wd.heap.size ≤ i ∧ i < w1.heap.size)) w2 (.agg #[.slice V m.n cv, .slice Fa m.k cf]) m := HMM.out.step ⟨hst.kept.mono (fun i hi => .inl (.inl hi)), fun i hi => by
    rcases hi with (e | e) | e
    · exact (hst.sub i e).elim (fun h => .inl (.inl (.inl h))) .inr
    · exact .inl (.inl (.inr e))
    · exact .inl (.inr e)⟩
  have HB2 := Lib.hid (And.intro (hst.kept.blk HBB.out.1 (hxb _ (by omega))) (And.intro (hst.kept.blk HBB.out.2.1 (hxb _ (by omega))) (hst.kept.blk HBB.out.2.2 (hxb _ (by omega)))))
  have HOX := Lib.hid (HOX1.out.kept hst.kept (fun i hi => hxb i (by have := (HGR.out i hi).1; omega)))
  have HA2 := Lib.hid ((HA1.out.kept (HK1.out.of0 _)).kept (hst.kept.mono HR.out.stk.low))
  have HB3 := Lib.hid ((HB1.out.kept (HK1.out.of0 _)).kept (hst.kept.mono HR.out.stk.low))
  have HST := Lib.hid ((Stp.of0 (X := X) (HKD.out.then0 HK1.out)).trans hst)
  have hbase := HR.out.stk.base_le
  have hsz2 : w1.heap.size ≤ w2.heap.size := hst.kept.size
  have key : ∀ (wr : World), Kept (fun i => (Value.slice xA mi xc).ownBlock = some i) w2 wr → StkIs wr sb base X1 (XL Z w.heap.size 3) (s.open o mi v k u) ∧ ModIs (XL X1 w.heap.size 3) wr (.agg #[.slice V m.n cv, .slice Fa m.k cf]) m ∧ Stp X X1 w wr ∧ Came S0 wr A mi c v ∧ Came S0 wr B k e u ∧ Blk wr w.heap.size 45 #[.slice V m.n cv, .slice Fa m.k cf] ∧ Blk wr (w.heap.size + 1) 50 #[.int .i64 4, .int .u16 o, .int .u32 (n : Int), .int .u8 (t.toNat : Int), .slice A mi c, .slice B k e] ∧ Blk wr (w.heap.size + 1 + 1) 45 #[.slice none 0 0, .slice none 0 0] ∧ (∀ i, XL X1 w.heap.size 3 i → i < wr.heap.size) := fun wr hkl => by
    have hnb : ∀ b, b < wd.heap.size → ¬ (Value.slice xA mi xc).ownBlock = some b := fun b hb e => by have := (HGR.out b e).1; omega
    have hkb : Kept (SB base) w2 wr := hkl.mono (fun i hi => by have := (HGR.out i hi).1; show base ≤ i; omega)
    refine ⟨hS2.write hkl (fun i hi => ⟨.inr (HGR.out i hi), fun e => hx1 i e (by have := HGR.out i hi; omega)⟩) (fun i hi => .inl hi), hM2.step ⟨hkl.mono (fun i hi => .inr (HGR.out i hi)), fun i hi => .inl (.inl hi)⟩, ⟨HST.out.kept.trans_ hkl (fun i hi => .inr (by have := (HGR.out i hi).1; omega)), HST.out.sub⟩, (HA2.out.kept hkb).mono (fun _ x => x.elim), (HB3.out.kept hkb).mono (fun _ x => x.elim), hkl.blk HB2.out.2.1 (hnb _ (by omega)), hkl.blk HB2.out.1 (hnb _ (by omega)), hkl.blk HB2.out.2.2 (hnb _ (by omega)), fun i hi => ?_⟩
    rcases hi with e | e
    · exact Nat.lt_of_lt_of_le (hS2.xlt i e) hkl.size
    · have := hkl.size; omega
  have KEY := Lib.hid key
  have HX1 := Lib.hid hx1
  clear key hS2 hst hx1 hxb hM2 OP a1 a5 HB2 HA2 HB3 hbase hsz2
  go_wp2_with fail
  go_loopw [23] (fun i wr => ∃ (j : Nat) (F : Nat → Value), i = .int .i64 (j : Int) ∧ j ≤ mi ∧ Own wr wd.heap.size 30 1 IsByte (.slice xA mi xc) mi F ∧ Kept (fun i => (Value.slice xA mi xc).ownBlock = some i) w2 wr) (fun i _ => mi - (intOf i).toNat)
  case atStart => exact ⟨0, _, rfl, by omega, HOX.out, Kept.refl _ _⟩
  case round =>
    obtain ⟨j, F, rfl, hj, hox, hkl⟩ := hrel
    rcases Nat.lt_or_ge j (mi) with hlt | hge
    · obtain ⟨g, hg⟩ := hox.some_of (by omega)
      subst hg
      obtain ⟨p1, p2⟩ := hox.cellAt hlt
      obtain ⟨F', hox'⟩ := own_write (j := j) hox
      have hji : (j : Int) < ((mi : Nat) : Int) := by omega
      have uj : IntKind.i64.wrap ((j : Int) + 1) = (j : Int) + 1 := IntWalk.i64_in _ (by omega)
      have HO2 := Lib.hid hox'
      have HKL := Lib.hid (hkl.setCell (p := ⟨g, j, none⟩) (.inl rfl) (.int .u8 1))
      clear hox hox' hkl 
      go_wp2_with fail
      go_roundw
      case rel => exact ⟨j + 1, F', by go_num, by omega, HO2.out, HKL.out⟩
      case measure => simp [intOf]; omega
    · obtain rfl : mi = j := by omega
      obtain ⟨k1, k2, k3, k4, k5, k6, k7, k8, k9⟩ := KEY.out wr hkl
      have m0 := k6.cell 0
      have m1 := k6.cell 1
      have a1 := k7.cell 1
      have a4 := k7.cell 4
      have a5 := k7.cell 5
      have MO := Lib.hid (mopen_is o A B mi c k e v u k2 k9 k4 k5 HR.out.kmod HR.out.nmod)
      have HS := Lib.hid (And.intro k1 (And.intro k3 k8))
      clear hox hkl k1 k2 k3 k4 k5 k6 k7 k8 k9
      go_wp2_with fail
      refine MO.out.mono ?_
      rintro e1 w5 ⟨mv2, rfl, hm5, hk5⟩
      obtain ⟨V2, cv2, Fa2, cf2, hmv⟩ : ∃ V2 cv2 Fa2 cf2, mv2 = .agg #[.slice V2 (m.open o mi v k u).n cv2, .slice Fa2 (m.open o mi v k u).k cf2] := by
        obtain ⟨V2, cv2, Fa2, cf2, G2, h, _⟩ := hm5.ex
        exact ⟨V2, cv2, Fa2, cf2, h⟩
      subst hmv
      have hr5 := hk5.blk HS.out.2.2 (fun x => x)
      have r0 := hr5.cell 0
      have r1 := hr5.cell 1
      have z0 := hr5.frozen 0
      have z1 := hr5.frozen 1
      obtain ⟨wf, hwf, q1, q2, q3, q4⟩ := both_end (m' := m.open o mi v k u) rfl (by omega) (HS.out.1.kept0 hk5) hm5 (HS.out.2.1.then0 hk5) (fun i hi e => HX1.out i hi (by omega)) hr5
      have g0 := q4.cell 0
      have g1 := q4.cell 1
      have HQ := Lib.hid (And.intro q1 (And.intro q2 q3))
      have HF := Lib.hid hwf
      clear hm5 hk5 hr5 q1 q2 q3 q4 hwf MO m0 m1 a1 a4 a5
      go_wp2_with fail
      rw [← HF.out]
      exact bodyPost_ret (v := .tuple #[.agg #[.slice V2 (m.open o mi v k u).n cv2, .slice Fa2 (m.open o mi v k u).k cf2], .bool true]) (by simp [results, Try.results20, go_sem, g0, g1]) rfl ⟨_, _, X1, rfl, fun _ => rfl, HQ.out⟩
end
end Go.Proofs.Ytpbaojjcbpfdaaa
