/- An act done to a checker and to the document's: what both do. No condition. -/
import Derived.Test.YtpbaojjcbpfdaaaStkSa
namespace Go.Proofs.Ytpbaojjcbpfdaaa
open Go.RowKit

section
variable {X Z Z' : Nat → Prop} {w w' : World} {sb base : Nat} {s m : St} {mv : Value}

theorem StkIs.xlt (h : StkIs w sb base X Z s) : ∀ i, X i → i < w.heap.size := fun i hi => by
  obtain ⟨lv, lf, F, hm, hX, _⟩ := h.ex
  rcases (hX i).2 hi with e | e | e
  · rw [e]; exact hm.obj.lt
  · exact (hm.vals.lt i e).2
  · exact (hm.frs.lt i e).2

theorem StkIs.box (h : StkIs w sb base X Z s) (hk : Kept S0 w w') (hz : ∀ i, Z' i → Z i ∨ w.heap.size ≤ i) (hl : ∀ i, Z' i → i < w'.heap.size) : StkIs w' sb base X Z' s := by
  obtain ⟨lv, lf, F, hm, hX, hF⟩ := h.ex
  exact ⟨⟨lv, lf, F, hm.kept0 hk, hX, hF.step ⟨hk.of0 _, fun i hi => hi.elim (fun e => .inl (.inl e)) (fun e => (hz i e).elim (fun e => .inl (.inr e)) .inr)⟩⟩, h.low, hl⟩

theorem StkIs.write {S : Nat → Prop} (h : StkIs w sb base X Z' s) (hk : Kept S w w') (hs : ∀ i, S i → Z' i ∧ ¬ X i) (hz : ∀ i, Z i → Z' i) : StkIs w' sb base X Z s := by
  obtain ⟨lv, lf, F, hm, hX, hF⟩ := h.ex
  have hn : ∀ i, SK sb lv lf i → ¬ S i := fun i hi e => (hs i e).2 ((hX i).1 hi)
  refine ⟨⟨lv, lf, F, hm.kept hk (hn sb (.inl rfl)) (fun g hg => hn g (.inr (.inl hg))) (fun g hg => hn g (.inr (.inr hg))), hX, hF.step ⟨hk.mono (fun i hi => .inr (hs i hi).1), fun i hi => .inl (hi.elim .inl (fun e => .inr (hz i e)))⟩⟩, h.low, fun i hi => Nat.lt_of_lt_of_le (h.zlt i (hz i hi)) hk.size⟩

/-- The last store of an act: the document's checker is answered. -/
theorem both_end {X1 : Nat → Prop} {w0 w4 : World} {m' : St} {V2 Fa2 : Option Addr} {cv2 cf2 : Nat} {b n : Nat} (hb : w0.heap.size = b) (hn : 2 < n) (hS : StkIs w4 sb base X1 (XL Z b n) s) (hM : ModIs (XL X1 b n) w4 (.agg #[.slice V2 m'.n cv2, .slice Fa2 m'.k cf2]) m')
    (hst : Stp X X1 w0 w4) (hx : ∀ i, X1 i → ¬ (b ≤ i ∧ i < b + n)) (hr : Blk w4 (b + 1 + 1) 45 #[.slice none 0 0, .slice none 0 0]) :
    ∃ wf, wf = (w4.setCell ⟨b + 1 + 1, 0, none⟩ (.slice V2 m'.n cv2)).setCell ⟨b + 1 + 1, 1, none⟩ (.slice Fa2 m'.k cf2) ∧ StkIs wf sb base X1 Z s ∧ Stp X X1 w0 wf ∧ ModIs X1 wf (.agg #[.slice V2 m'.n cv2, .slice Fa2 m'.k cf2]) m' ∧ Blk wf (b + 1 + 1) 45 #[.slice V2 m'.n cv2, .slice Fa2 m'.k cf2] := by
  have hk := set2 w4 (b + 1 + 1) (.slice V2 m'.n cv2) (.slice Fa2 m'.k cf2)
  have hin : ∀ i, S1 (b + 1 + 1) i → b ≤ i ∧ i < b + n := fun i hi => by have e : i = b + 1 + 1 := hi; omega
  refine ⟨_, rfl, hS.write hk (fun i hi => ⟨.inr (hin i hi), fun e => hx i e (hin i hi)⟩) (fun i hi => .inl hi), ⟨hst.kept.trans_ hk (fun i hi => .inr (by have := (hin i hi).1; omega)), hst.sub⟩, hM.step (loc_out hk hin), (hr.set_ 0 _).set_ 1 _⟩

/-- What an act makes of a checker. -/
def St.act (s : St) (d o : Int) (t : UInt8) (mi : Nat) (v : Nat → UInt8) (k : Nat) (u : Nat → UInt8) : St :=
  if d = 0 then s.push v mi else if d = 1 then s.withN s.takeN else if d = 2 then s.withN (s.ofN t) else if d = 3 then s.withN (s.allN v mi) else if d = 4 then s.open o mi v k u else if d = 5 then s.close else if d = 6 then s.dead else s

/-- What is known ahead of an act. -/
structure Ready (X Z : Nat → Prop) (w : World) (sb base : Nat) (s m : St) (mv : Value) (A : Option Addr) (mi c : Nat) (v : Nat → UInt8) (B : Option Addr) (k e : Nat) (u : Nat → UInt8) : Prop where
  stk : StkIs w sb base X Z s
  swf : s.Wf
  mod : ModIs X w mv m
  mwf : m.Wf
  inn : Came (SB base) w A mi c v
  out : Came (SB base) w B k e u
  nstk : s.n + mi ≤ 140737488351232
  nmod : m.n + mi ≤ 140737488351232
  kstk : s.k + 1 ≤ 1000000000
  kmod : m.k + 1 ≤ 1000000000

/-- What is known behind it. -/
def Done (X Z : Nat → Prop) (w : World) (sb base : Nat) (s m s' m' : St) (e' : Ending) (w' : World) : Prop :=
  ∃ mv' b X', e' = .returned (.tuple #[mv', .bool b]) ∧ (s = m → b = true) ∧ StkIs w' sb base X' Z s' ∧ Stp X X' w w' ∧ ModIs X' w' mv' m'

set_option maxRecDepth 100000 in
set_option maxHeartbeats 6400000 in
theorem both_1 {A B : Option Addr} {o : Int} {n mi c k e : Nat} {v u : Nat → UInt8} {t : UInt8} (hr : Ready X Z w sb base s m mv A mi c v B k e u) : Calls Try.prog 20 #[.pointer (some ⟨sb, 0, none⟩), mv, .agg #[.int .i64 1, .int .u16 o, .int .u32 (n : Int), .int .u8 (t.toNat : Int), .slice A mi c, .slice B k e]] w fun e' w' => Done X Z w sb base s m (s.withN s.takeN) (m.withN m.takeN) e' w' := by
  obtain ⟨V, cv, Fa, cf, hmv⟩ : ∃ V cv Fa cf, mv = .agg #[.slice V m.n cv, .slice Fa m.k cf] := by
    obtain ⟨V, cv, Fa, cf, G, h, _⟩ := hr.mod.ex
    exact ⟨V, cv, Fa, cf, h⟩
  subst hmv
  have hkd : Kept S0 w (((w.alloc (.cells #[.slice V m.n cv, .slice Fa m.k cf] 45)).alloc (.cells #[.int .i64 1, .int .u16 o, .int .u32 (n : Int), .int .u8 (t.toNat : Int), .slice A mi c, .slice B k e] 50)).alloc (.cells #[.slice none 0 0, .slice none 0 0] 45)) := (((Kept.refl S0 w).alloc _).alloc _).alloc _
  have hbm : Blk (((w.alloc (.cells #[.slice V m.n cv, .slice Fa m.k cf] 45)).alloc (.cells #[.int .i64 1, .int .u16 o, .int .u32 (n : Int), .int .u8 (t.toNat : Int), .slice A mi c, .slice B k e] 50)).alloc (.cells #[.slice none 0 0, .slice none 0 0] 45)) w.heap.size 45 #[.slice V m.n cv, .slice Fa m.k cf] := ((Blk.new w _ _).alloc _).alloc _
  have hba : Blk (((w.alloc (.cells #[.slice V m.n cv, .slice Fa m.k cf] 45)).alloc (.cells #[.int .i64 1, .int .u16 o, .int .u32 (n : Int), .int .u8 (t.toNat : Int), .slice A mi c, .slice B k e] 50)).alloc (.cells #[.slice none 0 0, .slice none 0 0] 45)) (w.heap.size + 1) 50 #[.int .i64 1, .int .u16 o, .int .u32 (n : Int), .int .u8 (t.toNat : Int), .slice A mi c, .slice B k e] := (Blk.new1 w _ _ _).alloc _
  have hs2 : ((w.alloc (.cells #[.slice V m.n cv, .slice Fa m.k cf] 45)).alloc (.cells #[.int .i64 1, .int .u16 o, .int .u32 (n : Int), .int .u8 (t.toNat : Int), .slice A mi c, .slice B k e] 50)).heap.size = w.heap.size + 1 + 1 := by simp
  have hsz : (((w.alloc (.cells #[.slice V m.n cv, .slice Fa m.k cf] 45)).alloc (.cells #[.int .i64 1, .int .u16 o, .int .u32 (n : Int), .int .u8 (t.toNat : Int), .slice A mi c, .slice B k e] 50)).alloc (.cells #[.slice none 0 0, .slice none 0 0] 45)).heap.size = w.heap.size + 3 := by simp
  have hbr : Blk (((w.alloc (.cells #[.slice V m.n cv, .slice Fa m.k cf] 45)).alloc (.cells #[.int .i64 1, .int .u16 o, .int .u32 (n : Int), .int .u8 (t.toNat : Int), .slice A mi c, .slice B k e] 50)).alloc (.cells #[.slice none 0 0, .slice none 0 0] 45)) (w.heap.size + 1 + 1) 45 #[.slice none 0 0, .slice none 0 0] := by
    have h := Blk.new ((w.alloc (.cells #[.slice V m.n cv, .slice Fa m.k cf] 45)).alloc (.cells #[.int .i64 1, .int .u16 o, .int .u32 (n : Int), .int .u8 (t.toNat : Int), .slice A mi c, .slice B k e] 50)) 45 #[.slice none 0 0, .slice none 0 0]
    rwa [hs2] at h
  have hS1 : StkIs (((w.alloc (.cells #[.slice V m.n cv, .slice Fa m.k cf] 45)).alloc (.cells #[.int .i64 1, .int .u16 o, .int .u32 (n : Int), .int .u8 (t.toNat : Int), .slice A mi c, .slice B k e] 50)).alloc (.cells #[.slice none 0 0, .slice none 0 0] 45)) sb base X (XL Z w.heap.size 3) s := hr.stk.box hkd (fun i hi => hi.elim .inl (fun e => .inr e.1)) (fun i hi => by
    rcases hi with e | e
    · have := hr.stk.zlt i e; rw [hsz]; omega
    · rw [hsz]; omega)
  have hM1 : ModIs (XL X w.heap.size 3) (((w.alloc (.cells #[.slice V m.n cv, .slice Fa m.k cf] 45)).alloc (.cells #[.int .i64 1, .int .u16 o, .int .u32 (n : Int), .int .u8 (t.toNat : Int), .slice A mi c, .slice B k e] 50)).alloc (.cells #[.slice none 0 0, .slice none 0 0] 45)) (.agg #[.slice V m.n cv, .slice Fa m.k cf]) m := hr.mod.step (loc_in 3 hkd)
  have hxlt := hr.stk.xlt
  have hA1 := hr.inn.kept (hkd.of0 _)
  have hB1 := hr.out.kept (hkd.of0 _)
  have a1 := hba.cell 1
  have a2 := hba.cell 2
  have a3 := hba.cell 3
  have a4 := hba.cell 4
  have a5 := hba.cell 5
  have m0 := hbm.cell 0
  have m1 := hbm.cell 1
  have HR := Lib.hid hr
  have HBA := Lib.hid hba
  have HBM := Lib.hid hbm
  have HBR := Lib.hid hbr
  have HS1 := Lib.hid hS1
  have HM1 := Lib.hid hM1
  have HKD := Lib.hid hkd
  have HA1 := Lib.hid hA1
  have HB1 := Lib.hid hB1
  clear hr hs2 hbm hba hbr hS1 hM1 hkd hA1 hB1
  go_enter Try.func20, Try.ntmps20
  go_wp2_with fail
  generalize (((w.alloc (.cells #[.slice V m.n cv, .slice Fa m.k cf] 45)).alloc (.cells #[.int .i64 1, .int .u16 o, .int .u32 (n : Int), .int .u8 (t.toNat : Int), .slice A mi c, .slice B k e] 50)).alloc (.cells #[.slice none 0 0, .slice none 0 0] 45)) = wd at *
  refine (take_is HS1.out HR.out.swf).mono ?_
  rintro e1 w2 ⟨rfl, X1, hS2, hst⟩
  have hx1 : ∀ i, X1 i → ¬ (w.heap.size ≤ i ∧ i < w.heap.size + 3) := fun i hi e => by
    rcases hst.sub i hi with h | h
    · have := hxlt i h; omega
    · omega
  have hxb : ∀ i, w.heap.size ≤ i → ¬ X i := fun i h1 h2 => by have := hxlt i h2; omega
  have hba := hst.kept.blk HBA.out (hxb _ (by omega))
  have hbm := hst.kept.blk HBM.out (hxb _ (by omega))
  have hbr := hst.kept.blk HBR.out (hxb _ (by omega))
  have hM2 : ModIs (XL X1 w.heap.size 3) w2 (.agg #[.slice V m.n cv, .slice Fa m.k cf]) m := HM1.out.step hst.z
  have hl2 : ∀ i, XL X1 w.heap.size 3 i → i < w2.heap.size := fun i hi => by
    rcases hi with e | e
    · exact hS2.xlt i e
    · have := hst.kept.size; omega
  have hAB : Kept (SB base) wd w2 := hst.kept.mono (fun i hi => HR.out.stk.low i hi)
  have a2 := hba.cell 2
  have a3 := hba.cell 3
  have a4 := hba.cell 4
  have a5 := hba.cell 5
  have m0 := hbm.cell 0
  have m1 := hbm.cell 1
  have MT := Lib.hid (mtake_is hM2 HR.out.mwf hl2)
  have HS2 := Lib.hid hS2
  have HST := Lib.hid ((Stp.of0 (X := X) HKD.out).trans hst)
  have HBR2 := Lib.hid hbr
  have HX1 := Lib.hid hx1
  clear hba hbm hbr hM2 hl2 hAB hS2 hst hx1 hxb a1
  go_wp2_with fail
  refine MT.out.mono ?_
  rintro e1 w3 ⟨mv2, rfl, hm3, hk3⟩
  obtain ⟨V2, cv2, Fa2, cf2, hmv⟩ : ∃ V2 cv2 Fa2 cf2, mv2 = .agg #[.slice V2 (m.withN m.takeN).n cv2, .slice Fa2 (m.withN m.takeN).k cf2] := by
    obtain ⟨V2, cv2, Fa2, cf2, G2, h, _⟩ := hm3.ex
    exact ⟨V2, cv2, Fa2, cf2, h⟩
  subst hmv
  have hka := (Kept.refl S0 w3).alloc (.cells #[.slice V2 (m.withN m.takeN).n cv2, .slice Fa2 (m.withN m.takeN).k cf2] 45)
  have hk4 := hk3.then0 hka
  have hr4 := hk4.blk HBR2.out (fun x => x)
  have r0 := hr4.cell 0
  have r1 := hr4.cell 1
  have z0 := hr4.frozen 0
  have z1 := hr4.frozen 1
  obtain ⟨wf, hwf, q1, q2, q3, q4⟩ := both_end rfl (by omega) (HS2.out.kept0 hk4) (hm3.kept0 hka) (HST.out.then0 hk4) HX1.out hr4
  have g0 := q4.cell 0
  have g1 := q4.cell 1
  have HQ := Lib.hid (And.intro q1 (And.intro q2 q3))
  have HF := Lib.hid hwf
  clear hm3 hk3 hka hk4 hr4 q1 q2 q3 q4 hwf MT m0 m1 a2 a3 a4 a5
  cases h1 : (((s.takeT.toNat : Int) : Int) == (m.takeT.toNat : Int)) with
  | false =>
    go_wp2_with fail
    rw [← HF.out]
    exact bodyPost_ret (v := .tuple #[.agg #[.slice V2 (m.withN m.takeN).n cv2, .slice Fa2 (m.withN m.takeN).k cf2], .bool false]) (by simp [results, Try.results20, go_sem, g0, g1]) rfl ⟨_, _, X1, rfl, fun e => by rw [e] at h1; simp at h1, HQ.out⟩
  | true =>
    go_wp2_with fail
    rw [← HF.out]
    exact bodyPost_ret (v := .tuple #[.agg #[.slice V2 (m.withN m.takeN).n cv2, .slice Fa2 (m.withN m.takeN).k cf2], .bool (s.takeE == m.takeE)]) (by simp [results, Try.results20, go_sem, g0, g1]) rfl ⟨_, _, X1, rfl, fun e => by rw [e]; simp, HQ.out⟩

set_option maxRecDepth 100000 in
set_option maxHeartbeats 6400000 in
theorem both_2 {A B : Option Addr} {o : Int} {n mi c k e : Nat} {v u : Nat → UInt8} {t : UInt8} (hr : Ready X Z w sb base s m mv A mi c v B k e u) : Calls Try.prog 20 #[.pointer (some ⟨sb, 0, none⟩), mv, .agg #[.int .i64 2, .int .u16 o, .int .u32 (n : Int), .int .u8 (t.toNat : Int), .slice A mi c, .slice B k e]] w fun e' w' => Done X Z w sb base s m (s.withN (s.ofN t)) (m.withN (m.ofN t)) e' w' := by
  obtain ⟨V, cv, Fa, cf, hmv⟩ : ∃ V cv Fa cf, mv = .agg #[.slice V m.n cv, .slice Fa m.k cf] := by
    obtain ⟨V, cv, Fa, cf, G, h, _⟩ := hr.mod.ex
    exact ⟨V, cv, Fa, cf, h⟩
  subst hmv
  have hkd : Kept S0 w (((w.alloc (.cells #[.slice V m.n cv, .slice Fa m.k cf] 45)).alloc (.cells #[.int .i64 2, .int .u16 o, .int .u32 (n : Int), .int .u8 (t.toNat : Int), .slice A mi c, .slice B k e] 50)).alloc (.cells #[.slice none 0 0, .slice none 0 0] 45)) := (((Kept.refl S0 w).alloc _).alloc _).alloc _
  have hbm : Blk (((w.alloc (.cells #[.slice V m.n cv, .slice Fa m.k cf] 45)).alloc (.cells #[.int .i64 2, .int .u16 o, .int .u32 (n : Int), .int .u8 (t.toNat : Int), .slice A mi c, .slice B k e] 50)).alloc (.cells #[.slice none 0 0, .slice none 0 0] 45)) w.heap.size 45 #[.slice V m.n cv, .slice Fa m.k cf] := ((Blk.new w _ _).alloc _).alloc _
  have hba : Blk (((w.alloc (.cells #[.slice V m.n cv, .slice Fa m.k cf] 45)).alloc (.cells #[.int .i64 2, .int .u16 o, .int .u32 (n : Int), .int .u8 (t.toNat : Int), .slice A mi c, .slice B k e] 50)).alloc (.cells #[.slice none 0 0, .slice none 0 0] 45)) (w.heap.size + 1) 50 #[.int .i64 2, .int .u16 o, .int .u32 (n : Int), .int .u8 (t.toNat : Int), .slice A mi c, .slice B k e] := (Blk.new1 w _ _ _).alloc _
  have hs2 : ((w.alloc (.cells #[.slice V m.n cv, .slice Fa m.k cf] 45)).alloc (.cells #[.int .i64 2, .int .u16 o, .int .u32 (n : Int), .int .u8 (t.toNat : Int), .slice A mi c, .slice B k e] 50)).heap.size = w.heap.size + 1 + 1 := by simp
  have hsz : (((w.alloc (.cells #[.slice V m.n cv, .slice Fa m.k cf] 45)).alloc (.cells #[.int .i64 2, .int .u16 o, .int .u32 (n : Int), .int .u8 (t.toNat : Int), .slice A mi c, .slice B k e] 50)).alloc (.cells #[.slice none 0 0, .slice none 0 0] 45)).heap.size = w.heap.size + 3 := by simp
  have hbr : Blk (((w.alloc (.cells #[.slice V m.n cv, .slice Fa m.k cf] 45)).alloc (.cells #[.int .i64 2, .int .u16 o, .int .u32 (n : Int), .int .u8 (t.toNat : Int), .slice A mi c, .slice B k e] 50)).alloc (.cells #[.slice none 0 0, .slice none 0 0] 45)) (w.heap.size + 1 + 1) 45 #[.slice none 0 0, .slice none 0 0] := by
    have h := Blk.new ((w.alloc (.cells #[.slice V m.n cv, .slice Fa m.k cf] 45)).alloc (.cells #[.int .i64 2, .int .u16 o, .int .u32 (n : Int), .int .u8 (t.toNat : Int), .slice A mi c, .slice B k e] 50)) 45 #[.slice none 0 0, .slice none 0 0]
    rwa [hs2] at h
  have hS1 : StkIs (((w.alloc (.cells #[.slice V m.n cv, .slice Fa m.k cf] 45)).alloc (.cells #[.int .i64 2, .int .u16 o, .int .u32 (n : Int), .int .u8 (t.toNat : Int), .slice A mi c, .slice B k e] 50)).alloc (.cells #[.slice none 0 0, .slice none 0 0] 45)) sb base X (XL Z w.heap.size 3) s := hr.stk.box hkd (fun i hi => hi.elim .inl (fun e => .inr e.1)) (fun i hi => by
    rcases hi with e | e
    · have := hr.stk.zlt i e; rw [hsz]; omega
    · rw [hsz]; omega)
  have hM1 : ModIs (XL X w.heap.size 3) (((w.alloc (.cells #[.slice V m.n cv, .slice Fa m.k cf] 45)).alloc (.cells #[.int .i64 2, .int .u16 o, .int .u32 (n : Int), .int .u8 (t.toNat : Int), .slice A mi c, .slice B k e] 50)).alloc (.cells #[.slice none 0 0, .slice none 0 0] 45)) (.agg #[.slice V m.n cv, .slice Fa m.k cf]) m := hr.mod.step (loc_in 3 hkd)
  have hxlt := hr.stk.xlt
  have hA1 := hr.inn.kept (hkd.of0 _)
  have hB1 := hr.out.kept (hkd.of0 _)
  have a1 := hba.cell 1
  have a2 := hba.cell 2
  have a3 := hba.cell 3
  have a4 := hba.cell 4
  have a5 := hba.cell 5
  have m0 := hbm.cell 0
  have m1 := hbm.cell 1
  have HR := Lib.hid hr
  have HBA := Lib.hid hba
  have HBM := Lib.hid hbm
  have HBR := Lib.hid hbr
  have HS1 := Lib.hid hS1
  have HM1 := Lib.hid hM1
  have HKD := Lib.hid hkd
  have HA1 := Lib.hid hA1
  have HB1 := Lib.hid hB1
  clear hr hs2 hbm hba hbr hS1 hM1 hkd hA1 hB1
  go_enter Try.func20, Try.ntmps20
  go_wp2_with fail
  generalize (((w.alloc (.cells #[.slice V m.n cv, .slice Fa m.k cf] 45)).alloc (.cells #[.int .i64 2, .int .u16 o, .int .u32 (n : Int), .int .u8 (t.toNat : Int), .slice A mi c, .slice B k e] 50)).alloc (.cells #[.slice none 0 0, .slice none 0 0] 45)) = wd at *
  refine (takeOf_is t HS1.out HR.out.swf).mono ?_
  rintro e1 w2 ⟨rfl, X1, hS2, hst⟩
  have hx1 : ∀ i, X1 i → ¬ (w.heap.size ≤ i ∧ i < w.heap.size + 3) := fun i hi e => by
    rcases hst.sub i hi with h | h
    · have := hxlt i h; omega
    · omega
  have hxb : ∀ i, w.heap.size ≤ i → ¬ X i := fun i h1 h2 => by have := hxlt i h2; omega
  have hba := hst.kept.blk HBA.out (hxb _ (by omega))
  have hbm := hst.kept.blk HBM.out (hxb _ (by omega))
  have hbr := hst.kept.blk HBR.out (hxb _ (by omega))
  have hM2 : ModIs (XL X1 w.heap.size 3) w2 (.agg #[.slice V m.n cv, .slice Fa m.k cf]) m := HM1.out.step hst.z
  have hl2 : ∀ i, XL X1 w.heap.size 3 i → i < w2.heap.size := fun i hi => by
    rcases hi with e | e
    · exact hS2.xlt i e
    · have := hst.kept.size; omega
  have hAB : Kept (SB base) wd w2 := hst.kept.mono (fun i hi => HR.out.stk.low i hi)
  have a2 := hba.cell 2
  have a3 := hba.cell 3
  have a4 := hba.cell 4
  have a5 := hba.cell 5
  have m0 := hbm.cell 0
  have m1 := hbm.cell 1
  have MT := Lib.hid (mtakeOf_is t hM2 HR.out.mwf hl2)
  have HS2 := Lib.hid hS2
  have HST := Lib.hid ((Stp.of0 (X := X) HKD.out).trans hst)
  have HBR2 := Lib.hid hbr
  have HX1 := Lib.hid hx1
  clear hba hbm hbr hM2 hl2 hAB hS2 hst hx1 hxb a1
  go_wp2_with fail
  refine MT.out.mono ?_
  rintro e1 w3 ⟨mv2, rfl, hm3, hk3⟩
  obtain ⟨V2, cv2, Fa2, cf2, hmv⟩ : ∃ V2 cv2 Fa2 cf2, mv2 = .agg #[.slice V2 (m.withN (m.ofN t)).n cv2, .slice Fa2 (m.withN (m.ofN t)).k cf2] := by
    obtain ⟨V2, cv2, Fa2, cf2, G2, h, _⟩ := hm3.ex
    exact ⟨V2, cv2, Fa2, cf2, h⟩
  subst hmv
  have hka := (Kept.refl S0 w3).alloc (.cells #[.slice V2 (m.withN (m.ofN t)).n cv2, .slice Fa2 (m.withN (m.ofN t)).k cf2] 45)
  have hk4 := hk3.then0 hka
  have hr4 := hk4.blk HBR2.out (fun x => x)
  have r0 := hr4.cell 0
  have r1 := hr4.cell 1
  have z0 := hr4.frozen 0
  have z1 := hr4.frozen 1
  obtain ⟨wf, hwf, q1, q2, q3, q4⟩ := both_end rfl (by omega) (HS2.out.kept0 hk4) (hm3.kept0 hka) (HST.out.then0 hk4) HX1.out hr4
  have g0 := q4.cell 0
  have g1 := q4.cell 1
  have HQ := Lib.hid (And.intro q1 (And.intro q2 q3))
  have HF := Lib.hid hwf
  clear hm3 hk3 hka hk4 hr4 q1 q2 q3 q4 hwf MT m0 m1 a2 a3 a4 a5
  cases h1 : ((((s.ofT t).toNat : Int) : Int) == ((m.ofT t).toNat : Int)) with
  | false =>
    go_wp2_with fail
    rw [← HF.out]
    exact bodyPost_ret (v := .tuple #[.agg #[.slice V2 (m.withN (m.ofN t)).n cv2, .slice Fa2 (m.withN (m.ofN t)).k cf2], .bool false]) (by simp [results, Try.results20, go_sem, g0, g1]) rfl ⟨_, _, X1, rfl, fun e => by rw [e] at h1; simp at h1, HQ.out⟩
  | true =>
    go_wp2_with fail
    rw [← HF.out]
    exact bodyPost_ret (v := .tuple #[.agg #[.slice V2 (m.withN (m.ofN t)).n cv2, .slice Fa2 (m.withN (m.ofN t)).k cf2], .bool (s.ofE t == m.ofE t)]) (by simp [results, Try.results20, go_sem, g0, g1]) rfl ⟨_, _, X1, rfl, fun e => by rw [e]; simp, HQ.out⟩

set_option maxRecDepth 100000 in
set_option maxHeartbeats 6400000 in
theorem both_3 {A B : Option Addr} {o : Int} {n mi c k e : Nat} {v u : Nat → UInt8} {t : UInt8} (hr : Ready X Z w sb base s m mv A mi c v B k e u) : Calls Try.prog 20 #[.pointer (some ⟨sb, 0, none⟩), mv, .agg #[.int .i64 3, .int .u16 o, .int .u32 (n : Int), .int .u8 (t.toNat : Int), .slice A mi c, .slice B k e]] w fun e' w' => Done X Z w sb base s m (s.withN (s.allN v mi)) (m.withN (m.allN v mi)) e' w' := by
  obtain ⟨V, cv, Fa, cf, hmv⟩ : ∃ V cv Fa cf, mv = .agg #[.slice V m.n cv, .slice Fa m.k cf] := by
    obtain ⟨V, cv, Fa, cf, G, h, _⟩ := hr.mod.ex
    exact ⟨V, cv, Fa, cf, h⟩
  subst hmv
  have hkd : Kept S0 w (((w.alloc (.cells #[.slice V m.n cv, .slice Fa m.k cf] 45)).alloc (.cells #[.int .i64 3, .int .u16 o, .int .u32 (n : Int), .int .u8 (t.toNat : Int), .slice A mi c, .slice B k e] 50)).alloc (.cells #[.slice none 0 0, .slice none 0 0] 45)) := (((Kept.refl S0 w).alloc _).alloc _).alloc _
  have hbm : Blk (((w.alloc (.cells #[.slice V m.n cv, .slice Fa m.k cf] 45)).alloc (.cells #[.int .i64 3, .int .u16 o, .int .u32 (n : Int), .int .u8 (t.toNat : Int), .slice A mi c, .slice B k e] 50)).alloc (.cells #[.slice none 0 0, .slice none 0 0] 45)) w.heap.size 45 #[.slice V m.n cv, .slice Fa m.k cf] := ((Blk.new w _ _).alloc _).alloc _
  have hba : Blk (((w.alloc (.cells #[.slice V m.n cv, .slice Fa m.k cf] 45)).alloc (.cells #[.int .i64 3, .int .u16 o, .int .u32 (n : Int), .int .u8 (t.toNat : Int), .slice A mi c, .slice B k e] 50)).alloc (.cells #[.slice none 0 0, .slice none 0 0] 45)) (w.heap.size + 1) 50 #[.int .i64 3, .int .u16 o, .int .u32 (n : Int), .int .u8 (t.toNat : Int), .slice A mi c, .slice B k e] := (Blk.new1 w _ _ _).alloc _
  have hs2 : ((w.alloc (.cells #[.slice V m.n cv, .slice Fa m.k cf] 45)).alloc (.cells #[.int .i64 3, .int .u16 o, .int .u32 (n : Int), .int .u8 (t.toNat : Int), .slice A mi c, .slice B k e] 50)).heap.size = w.heap.size + 1 + 1 := by simp
  have hsz : (((w.alloc (.cells #[.slice V m.n cv, .slice Fa m.k cf] 45)).alloc (.cells #[.int .i64 3, .int .u16 o, .int .u32 (n : Int), .int .u8 (t.toNat : Int), .slice A mi c, .slice B k e] 50)).alloc (.cells #[.slice none 0 0, .slice none 0 0] 45)).heap.size = w.heap.size + 3 := by simp
  have hbr : Blk (((w.alloc (.cells #[.slice V m.n cv, .slice Fa m.k cf] 45)).alloc (.cells #[.int .i64 3, .int .u16 o, .int .u32 (n : Int), .int .u8 (t.toNat : Int), .slice A mi c, .slice B k e] 50)).alloc (.cells #[.slice none 0 0, .slice none 0 0] 45)) (w.heap.size + 1 + 1) 45 #[.slice none 0 0, .slice none 0 0] := by
    have h := Blk.new ((w.alloc (.cells #[.slice V m.n cv, .slice Fa m.k cf] 45)).alloc (.cells #[.int .i64 3, .int .u16 o, .int .u32 (n : Int), .int .u8 (t.toNat : Int), .slice A mi c, .slice B k e] 50)) 45 #[.slice none 0 0, .slice none 0 0]
    rwa [hs2] at h
  have hS1 : StkIs (((w.alloc (.cells #[.slice V m.n cv, .slice Fa m.k cf] 45)).alloc (.cells #[.int .i64 3, .int .u16 o, .int .u32 (n : Int), .int .u8 (t.toNat : Int), .slice A mi c, .slice B k e] 50)).alloc (.cells #[.slice none 0 0, .slice none 0 0] 45)) sb base X (XL Z w.heap.size 3) s := hr.stk.box hkd (fun i hi => hi.elim .inl (fun e => .inr e.1)) (fun i hi => by
    rcases hi with e | e
    · have := hr.stk.zlt i e; rw [hsz]; omega
    · rw [hsz]; omega)
  have hM1 : ModIs (XL X w.heap.size 3) (((w.alloc (.cells #[.slice V m.n cv, .slice Fa m.k cf] 45)).alloc (.cells #[.int .i64 3, .int .u16 o, .int .u32 (n : Int), .int .u8 (t.toNat : Int), .slice A mi c, .slice B k e] 50)).alloc (.cells #[.slice none 0 0, .slice none 0 0] 45)) (.agg #[.slice V m.n cv, .slice Fa m.k cf]) m := hr.mod.step (loc_in 3 hkd)
  have hxlt := hr.stk.xlt
  have hA1 := hr.inn.kept (hkd.of0 _)
  have hB1 := hr.out.kept (hkd.of0 _)
  have a1 := hba.cell 1
  have a2 := hba.cell 2
  have a3 := hba.cell 3
  have a4 := hba.cell 4
  have a5 := hba.cell 5
  have m0 := hbm.cell 0
  have m1 := hbm.cell 1
  have HR := Lib.hid hr
  have HBA := Lib.hid hba
  have HBM := Lib.hid hbm
  have HBR := Lib.hid hbr
  have HS1 := Lib.hid hS1
  have HM1 := Lib.hid hM1
  have HKD := Lib.hid hkd
  have HA1 := Lib.hid hA1
  have HB1 := Lib.hid hB1
  clear hr hs2 hbm hba hbr hS1 hM1 hkd hA1 hB1
  go_enter Try.func20, Try.ntmps20
  go_wp2_with fail
  generalize (((w.alloc (.cells #[.slice V m.n cv, .slice Fa m.k cf] 45)).alloc (.cells #[.int .i64 3, .int .u16 o, .int .u32 (n : Int), .int .u8 (t.toNat : Int), .slice A mi c, .slice B k e] 50)).alloc (.cells #[.slice none 0 0, .slice none 0 0] 45)) = wd at *
  refine (takeAll_is A mi c v HS1.out HR.out.swf (HA1.out.mono HR.out.stk.low)).mono ?_
  rintro e1 w2 ⟨rfl, X1, hS2, hst⟩
  have hx1 : ∀ i, X1 i → ¬ (w.heap.size ≤ i ∧ i < w.heap.size + 3) := fun i hi e => by
    rcases hst.sub i hi with h | h
    · have := hxlt i h; omega
    · omega
  have hxb : ∀ i, w.heap.size ≤ i → ¬ X i := fun i h1 h2 => by have := hxlt i h2; omega
  have hba := hst.kept.blk HBA.out (hxb _ (by omega))
  have hbm := hst.kept.blk HBM.out (hxb _ (by omega))
  have hbr := hst.kept.blk HBR.out (hxb _ (by omega))
  have hM2 : ModIs (XL X1 w.heap.size 3) w2 (.agg #[.slice V m.n cv, .slice Fa m.k cf]) m := HM1.out.step hst.z
  have hl2 : ∀ i, XL X1 w.heap.size 3 i → i < w2.heap.size := fun i hi => by
    rcases hi with e | e
    · exact hS2.xlt i e
    · have := hst.kept.size; omega
  have hAB : Kept (SB base) wd w2 := hst.kept.mono (fun i hi => HR.out.stk.low i hi)
  have a2 := hba.cell 2
  have a3 := hba.cell 3
  have a4 := hba.cell 4
  have a5 := hba.cell 5
  have m0 := hbm.cell 0
  have m1 := hbm.cell 1
  have MT := Lib.hid (mtakeAll_is A mi c v hM2 HR.out.mwf hl2 ((HA1.out.kept hAB).mono (fun _ x => x.elim)))
  have HS2 := Lib.hid hS2
  have HST := Lib.hid ((Stp.of0 (X := X) HKD.out).trans hst)
  have HBR2 := Lib.hid hbr
  have HX1 := Lib.hid hx1
  clear hba hbm hbr hM2 hl2 hAB hS2 hst hx1 hxb a1
  go_wp2_with fail
  refine MT.out.mono ?_
  rintro e1 w3 ⟨mv2, rfl, hm3, hk3⟩
  obtain ⟨V2, cv2, Fa2, cf2, hmv⟩ : ∃ V2 cv2 Fa2 cf2, mv2 = .agg #[.slice V2 (m.withN (m.allN v mi)).n cv2, .slice Fa2 (m.withN (m.allN v mi)).k cf2] := by
    obtain ⟨V2, cv2, Fa2, cf2, G2, h, _⟩ := hm3.ex
    exact ⟨V2, cv2, Fa2, cf2, h⟩
  subst hmv
  have hka := (Kept.refl S0 w3).alloc (.cells #[.slice V2 (m.withN (m.allN v mi)).n cv2, .slice Fa2 (m.withN (m.allN v mi)).k cf2] 45)
  have hk4 := hk3.then0 hka
  have hr4 := hk4.blk HBR2.out (fun x => x)
  have r0 := hr4.cell 0
  have r1 := hr4.cell 1
  have z0 := hr4.frozen 0
  have z1 := hr4.frozen 1
  obtain ⟨wf, hwf, q1, q2, q3, q4⟩ := both_end rfl (by omega) (HS2.out.kept0 hk4) (hm3.kept0 hka) (HST.out.then0 hk4) HX1.out hr4
  have g0 := q4.cell 0
  have g1 := q4.cell 1
  have HQ := Lib.hid (And.intro q1 (And.intro q2 q3))
  have HF := Lib.hid hwf
  clear hm3 hk3 hka hk4 hr4 q1 q2 q3 q4 hwf MT m0 m1 a2 a3 a4 a5
  go_wp2_with fail
  rw [← HF.out]
  exact bodyPost_ret (v := .tuple #[.agg #[.slice V2 (m.withN (m.allN v mi)).n cv2, .slice Fa2 (m.withN (m.allN v mi)).k cf2], .bool (s.allE v mi == m.allE v mi)]) (by simp [results, Try.results20, go_sem, g0, g1]) rfl ⟨_, _, X1, rfl, fun e => by rw [e]; simp, HQ.out⟩

set_option maxRecDepth 100000 in
set_option maxHeartbeats 6400000 in
theorem both_6 {A B : Option Addr} {o : Int} {n mi c k e : Nat} {v u : Nat → UInt8} {t : UInt8} (hr : Ready X Z w sb base s m mv A mi c v B k e u) : Calls Try.prog 20 #[.pointer (some ⟨sb, 0, none⟩), mv, .agg #[.int .i64 6, .int .u16 o, .int .u32 (n : Int), .int .u8 (t.toNat : Int), .slice A mi c, .slice B k e]] w fun e' w' => Done X Z w sb base s m s.dead m.dead e' w' := by
  obtain ⟨V, cv, Fa, cf, hmv⟩ : ∃ V cv Fa cf, mv = .agg #[.slice V m.n cv, .slice Fa m.k cf] := by
    obtain ⟨V, cv, Fa, cf, G, h, _⟩ := hr.mod.ex
    exact ⟨V, cv, Fa, cf, h⟩
  subst hmv
  have hkd : Kept S0 w (((w.alloc (.cells #[.slice V m.n cv, .slice Fa m.k cf] 45)).alloc (.cells #[.int .i64 6, .int .u16 o, .int .u32 (n : Int), .int .u8 (t.toNat : Int), .slice A mi c, .slice B k e] 50)).alloc (.cells #[.slice none 0 0, .slice none 0 0] 45)) := (((Kept.refl S0 w).alloc _).alloc _).alloc _
  have hbm : Blk (((w.alloc (.cells #[.slice V m.n cv, .slice Fa m.k cf] 45)).alloc (.cells #[.int .i64 6, .int .u16 o, .int .u32 (n : Int), .int .u8 (t.toNat : Int), .slice A mi c, .slice B k e] 50)).alloc (.cells #[.slice none 0 0, .slice none 0 0] 45)) w.heap.size 45 #[.slice V m.n cv, .slice Fa m.k cf] := ((Blk.new w _ _).alloc _).alloc _
  have hba : Blk (((w.alloc (.cells #[.slice V m.n cv, .slice Fa m.k cf] 45)).alloc (.cells #[.int .i64 6, .int .u16 o, .int .u32 (n : Int), .int .u8 (t.toNat : Int), .slice A mi c, .slice B k e] 50)).alloc (.cells #[.slice none 0 0, .slice none 0 0] 45)) (w.heap.size + 1) 50 #[.int .i64 6, .int .u16 o, .int .u32 (n : Int), .int .u8 (t.toNat : Int), .slice A mi c, .slice B k e] := (Blk.new1 w _ _ _).alloc _
  have hs2 : ((w.alloc (.cells #[.slice V m.n cv, .slice Fa m.k cf] 45)).alloc (.cells #[.int .i64 6, .int .u16 o, .int .u32 (n : Int), .int .u8 (t.toNat : Int), .slice A mi c, .slice B k e] 50)).heap.size = w.heap.size + 1 + 1 := by simp
  have hsz : (((w.alloc (.cells #[.slice V m.n cv, .slice Fa m.k cf] 45)).alloc (.cells #[.int .i64 6, .int .u16 o, .int .u32 (n : Int), .int .u8 (t.toNat : Int), .slice A mi c, .slice B k e] 50)).alloc (.cells #[.slice none 0 0, .slice none 0 0] 45)).heap.size = w.heap.size + 3 := by simp
  have hbr : Blk (((w.alloc (.cells #[.slice V m.n cv, .slice Fa m.k cf] 45)).alloc (.cells #[.int .i64 6, .int .u16 o, .int .u32 (n : Int), .int .u8 (t.toNat : Int), .slice A mi c, .slice B k e] 50)).alloc (.cells #[.slice none 0 0, .slice none 0 0] 45)) (w.heap.size + 1 + 1) 45 #[.slice none 0 0, .slice none 0 0] := by
    have h := Blk.new ((w.alloc (.cells #[.slice V m.n cv, .slice Fa m.k cf] 45)).alloc (.cells #[.int .i64 6, .int .u16 o, .int .u32 (n : Int), .int .u8 (t.toNat : Int), .slice A mi c, .slice B k e] 50)) 45 #[.slice none 0 0, .slice none 0 0]
    rwa [hs2] at h
  have hS1 : StkIs (((w.alloc (.cells #[.slice V m.n cv, .slice Fa m.k cf] 45)).alloc (.cells #[.int .i64 6, .int .u16 o, .int .u32 (n : Int), .int .u8 (t.toNat : Int), .slice A mi c, .slice B k e] 50)).alloc (.cells #[.slice none 0 0, .slice none 0 0] 45)) sb base X (XL Z w.heap.size 3) s := hr.stk.box hkd (fun i hi => hi.elim .inl (fun e => .inr e.1)) (fun i hi => by
    rcases hi with e | e
    · have := hr.stk.zlt i e; rw [hsz]; omega
    · rw [hsz]; omega)
  have hM1 : ModIs (XL X w.heap.size 3) (((w.alloc (.cells #[.slice V m.n cv, .slice Fa m.k cf] 45)).alloc (.cells #[.int .i64 6, .int .u16 o, .int .u32 (n : Int), .int .u8 (t.toNat : Int), .slice A mi c, .slice B k e] 50)).alloc (.cells #[.slice none 0 0, .slice none 0 0] 45)) (.agg #[.slice V m.n cv, .slice Fa m.k cf]) m := hr.mod.step (loc_in 3 hkd)
  have hxlt := hr.stk.xlt
  have hA1 := hr.inn.kept (hkd.of0 _)
  have hB1 := hr.out.kept (hkd.of0 _)
  have a1 := hba.cell 1
  have a2 := hba.cell 2
  have a3 := hba.cell 3
  have a4 := hba.cell 4
  have a5 := hba.cell 5
  have m0 := hbm.cell 0
  have m1 := hbm.cell 1
  have HR := Lib.hid hr
  have HBA := Lib.hid hba
  have HBM := Lib.hid hbm
  have HBR := Lib.hid hbr
  have HS1 := Lib.hid hS1
  have HM1 := Lib.hid hM1
  have HKD := Lib.hid hkd
  have HA1 := Lib.hid hA1
  have HB1 := Lib.hid hB1
  clear hr hs2 hbm hba hbr hS1 hM1 hkd hA1 hB1
  go_enter Try.func20, Try.ntmps20
  go_wp2_with fail
  generalize (((w.alloc (.cells #[.slice V m.n cv, .slice Fa m.k cf] 45)).alloc (.cells #[.int .i64 6, .int .u16 o, .int .u32 (n : Int), .int .u8 (t.toNat : Int), .slice A mi c, .slice B k e] 50)).alloc (.cells #[.slice none 0 0, .slice none 0 0] 45)) = wd at *
  refine (dead_is HS1.out HR.out.swf).mono ?_
  rintro e1 w2 ⟨rfl, X1, hS2, hst⟩
  have hx1 : ∀ i, X1 i → ¬ (w.heap.size ≤ i ∧ i < w.heap.size + 3) := fun i hi e => by
    rcases hst.sub i hi with h | h
    · have := hxlt i h; omega
    · omega
  have hxb : ∀ i, w.heap.size ≤ i → ¬ X i := fun i h1 h2 => by have := hxlt i h2; omega
  have hba := hst.kept.blk HBA.out (hxb _ (by omega))
  have hbm := hst.kept.blk HBM.out (hxb _ (by omega))
  have hbr := hst.kept.blk HBR.out (hxb _ (by omega))
  have hM2 : ModIs (XL X1 w.heap.size 3) w2 (.agg #[.slice V m.n cv, .slice Fa m.k cf]) m := HM1.out.step hst.z
  have hl2 : ∀ i, XL X1 w.heap.size 3 i → i < w2.heap.size := fun i hi => by
    rcases hi with e | e
    · exact hS2.xlt i e
    · have := hst.kept.size; omega
  have hAB : Kept (SB base) wd w2 := hst.kept.mono (fun i hi => HR.out.stk.low i hi)
  have a2 := hba.cell 2
  have a3 := hba.cell 3
  have a4 := hba.cell 4
  have a5 := hba.cell 5
  have m0 := hbm.cell 0
  have m1 := hbm.cell 1
  have MT := Lib.hid (mdead_is hM2 HR.out.mwf hl2)
  have HS2 := Lib.hid hS2
  have HST := Lib.hid ((Stp.of0 (X := X) HKD.out).trans hst)
  have HBR2 := Lib.hid hbr
  have HX1 := Lib.hid hx1
  clear hba hbm hbr hM2 hl2 hAB hS2 hst hx1 hxb a1
  go_wp2_with fail
  refine MT.out.mono ?_
  rintro e1 w3 ⟨mv2, rfl, hm3, hk3⟩
  obtain ⟨V2, cv2, Fa2, cf2, hmv⟩ : ∃ V2 cv2 Fa2 cf2, mv2 = .agg #[.slice V2 (m.dead).n cv2, .slice Fa2 (m.dead).k cf2] := by
    obtain ⟨V2, cv2, Fa2, cf2, G2, h, _⟩ := hm3.ex
    exact ⟨V2, cv2, Fa2, cf2, h⟩
  subst hmv
  have hka := (Kept.refl S0 w3).alloc (.cells #[.slice V2 (m.dead).n cv2, .slice Fa2 (m.dead).k cf2] 45)
  have hk4 := hk3.then0 hka
  have hr4 := hk4.blk HBR2.out (fun x => x)
  have r0 := hr4.cell 0
  have r1 := hr4.cell 1
  have z0 := hr4.frozen 0
  have z1 := hr4.frozen 1
  obtain ⟨wf, hwf, q1, q2, q3, q4⟩ := both_end rfl (by omega) (HS2.out.kept0 hk4) (hm3.kept0 hka) (HST.out.then0 hk4) HX1.out hr4
  have g0 := q4.cell 0
  have g1 := q4.cell 1
  have HQ := Lib.hid (And.intro q1 (And.intro q2 q3))
  have HF := Lib.hid hwf
  clear hm3 hk3 hka hk4 hr4 q1 q2 q3 q4 hwf MT m0 m1 a2 a3 a4 a5
  go_wp2_with fail
  rw [← HF.out]
  exact bodyPost_ret (v := .tuple #[.agg #[.slice V2 (m.dead).n cv2, .slice Fa2 (m.dead).k cf2], .bool (s.deadE == m.deadE)]) (by simp [results, Try.results20, go_sem, g0, g1]) rfl ⟨_, _, X1, rfl, fun e => by rw [e]; simp, HQ.out⟩

end
end Go.Proofs.Ytpbaojjcbpfdaaa
