/- An act done to a checker and to the document's: Close, Push. No condition. -/
import Derived.Test.YtpbaojjcbpfdaaaStkBo
namespace Go.Proofs.Ytpbaojjcbpfdaaa
open Go.RowKit

section
variable {X Z Z' : Nat → Prop} {w w' : World} {sb base : Nat} {s m : St} {mv : Value}

set_option maxRecDepth 100000 in
set_option maxHeartbeats 6400000 in
theorem both_5 {A B : Option Addr} {o : Int} {n mi c k e : Nat} {v u : Nat → UInt8} {t : UInt8} (hr : Ready X Z w sb base s m mv A mi c v B k e u) : Calls Try.prog 20 #[.pointer (some ⟨sb, 0, none⟩), mv, .agg #[.int .i64 5, .int .u16 o, .int .u32 (n : Int), .int .u8 (t.toNat : Int), .slice A mi c, .slice B k e]] w fun e' w' => Done X Z w sb base s m s.close m.close e' w' := by
  obtain ⟨V, cv, Fa, cf, hmv⟩ : ∃ V cv Fa cf, mv = .agg #[.slice V m.n cv, .slice Fa m.k cf] := by
    obtain ⟨V, cv, Fa, cf, G, h, _⟩ := hr.mod.ex
    exact ⟨V, cv, Fa, cf, h⟩
  subst hmv
  have hkd : Kept S0 w (((w.alloc (.cells #[.slice V m.n cv, .slice Fa m.k cf] 45)).alloc (.cells #[.int .i64 5, .int .u16 o, .int .u32 (n : Int), .int .u8 (t.toNat : Int), .slice A mi c, .slice B k e] 50)).alloc (.cells #[.slice none 0 0, .slice none 0 0] 45)) := (((Kept.refl S0 w).alloc _).alloc _).alloc _
  have hbm : Blk (((w.alloc (.cells #[.slice V m.n cv, .slice Fa m.k cf] 45)).alloc (.cells #[.int .i64 5, .int .u16 o, .int .u32 (n : Int), .int .u8 (t.toNat : Int), .slice A mi c, .slice B k e] 50)).alloc (.cells #[.slice none 0 0, .slice none 0 0] 45)) w.heap.size 45 #[.slice V m.n cv, .slice Fa m.k cf] := ((Blk.new w _ _).alloc _).alloc _
  have hba : Blk (((w.alloc (.cells #[.slice V m.n cv, .slice Fa m.k cf] 45)).alloc (.cells #[.int .i64 5, .int .u16 o, .int .u32 (n : Int), .int .u8 (t.toNat : Int), .slice A mi c, .slice B k e] 50)).alloc (.cells #[.slice none 0 0, .slice none 0 0] 45)) (w.heap.size + 1) 50 #[.int .i64 5, .int .u16 o, .int .u32 (n : Int), .int .u8 (t.toNat : Int), .slice A mi c, .slice B k e] := (Blk.new1 w _ _ _).alloc _
  have hs2 : ((w.alloc (.cells #[.slice V m.n cv, .slice Fa m.k cf] 45)).alloc (.cells #[.int .i64 5, .int .u16 o, .int .u32 (n : Int), .int .u8 (t.toNat : Int), .slice A mi c, .slice B k e] 50)).heap.size = w.heap.size + 1 + 1 := by simp
  have hsz : (((w.alloc (.cells #[.slice V m.n cv, .slice Fa m.k cf] 45)).alloc (.cells #[.int .i64 5, .int .u16 o, .int .u32 (n : Int), .int .u8 (t.toNat : Int), .slice A mi c, .slice B k e] 50)).alloc (.cells #[.slice none 0 0, .slice none 0 0] 45)).heap.size = w.heap.size + 3 := by simp
  have hbr : Blk (((w.alloc (.cells #[.slice V m.n cv, .slice Fa m.k cf] 45)).alloc (.cells #[.int .i64 5, .int .u16 o, .int .u32 (n : Int), .int .u8 (t.toNat : Int), .slice A mi c, .slice B k e] 50)).alloc (.cells #[.slice none 0 0, .slice none 0 0] 45)) (w.heap.size + 1 + 1) 45 #[.slice none 0 0, .slice none 0 0] := by
    have h := Blk.new ((w.alloc (.cells #[.slice V m.n cv, .slice Fa m.k cf] 45)).alloc (.cells #[.int .i64 5, .int .u16 o, .int .u32 (n : Int), .int .u8 (t.toNat : Int), .slice A mi c, .slice B k e] 50)) 45 #[.slice none 0 0, .slice none 0 0]
    rwa [hs2] at h
  have hS1 : StkIs (((w.alloc (.cells #[.slice V m.n cv, .slice Fa m.k cf] 45)).alloc (.cells #[.int .i64 5, .int .u16 o, .int .u32 (n : Int), .int .u8 (t.toNat : Int), .slice A mi c, .slice B k e] 50)).alloc (.cells #[.slice none 0 0, .slice none 0 0] 45)) sb base X (XL Z w.heap.size 3) s := hr.stk.box hkd (fun i hi => hi.elim .inl (fun e => .inr e.1)) (fun i hi => by
    rcases hi with e | e
    · have := hr.stk.zlt i e; rw [hsz]; omega
    · rw [hsz]; omega)
  have hM1 : ModIs (XL X w.heap.size 3) (((w.alloc (.cells #[.slice V m.n cv, .slice Fa m.k cf] 45)).alloc (.cells #[.int .i64 5, .int .u16 o, .int .u32 (n : Int), .int .u8 (t.toNat : Int), .slice A mi c, .slice B k e] 50)).alloc (.cells #[.slice none 0 0, .slice none 0 0] 45)) (.agg #[.slice V m.n cv, .slice Fa m.k cf]) m := hr.mod.step (loc_in 3 hkd)
  have hxlt := hr.stk.xlt
  have hA1 := hr.inn.kept (hkd.of0 _)
  have hB1 := hr.out.kept (hkd.of0 _)
  have a1 := hba.cell 1
  have a2 := hba.cell 2
  have a3 := hba.cell 3
  have a4 := hba.cell 4
  have a5 := hba.cell 5
  have m0 := hbm.cell 0
  have m1 := hbm.cell 1
  have HR := Lib.hid hr
  have HBA := Lib.hid hba
  have HBM := Lib.hid hbm
  have HBR := Lib.hid hbr
  have HS1 := Lib.hid hS1
  have HM1 := Lib.hid hM1
  have HKD := Lib.hid hkd
  have HA1 := Lib.hid hA1
  have HB1 := Lib.hid hB1
  clear hr hs2 hbm hba hbr hS1 hM1 hkd hA1 hB1
  go_enter Try.func20, Try.ntmps20
  go_wp2_with fail
  generalize (((w.alloc (.cells #[.slice V m.n cv, .slice Fa m.k cf] 45)).alloc (.cells #[.int .i64 5, .int .u16 o, .int .u32 (n : Int), .int .u8 (t.toNat : Int), .slice A mi c, .slice B k e] 50)).alloc (.cells #[.slice none 0 0, .slice none 0 0] 45)) = wd at *
  refine (close_is HS1.out HR.out.swf).mono ?_
  rintro e1 w2 ⟨⟨x, rfl, hfx⟩, X1, hS2, hst⟩
  obtain ⟨xA, xc, xB, xe, hxe⟩ : ∃ xA xc xB xe, x = .agg #[.int .u16 s.closeF.op, .slice xA s.closeF.n xc, .slice xB s.closeF.m xe, .int .i64 (s.closeF.h : Int), .bool s.closeF.dead] := by
    obtain ⟨a, b, c, d, h, _, _⟩ := hfx
    exact ⟨a, b, c, d, h⟩
  subst hxe
  have hx1 : ∀ i, X1 i → ¬ (w.heap.size ≤ i ∧ i < w.heap.size + 3) := fun i hi e => by
    rcases hst.sub i hi with h | h
    · have := hxlt i h; omega
    · omega
  have hxb : ∀ i, w.heap.size ≤ i → ¬ X i := fun i h1 h2 => by have := hxlt i h2; omega
  have hba := hst.kept.blk HBA.out (hxb _ (by omega))
  have hbm := hst.kept.blk HBM.out (hxb _ (by omega))
  have hbr := hst.kept.blk HBR.out (hxb _ (by omega))
  have hM2 : ModIs (XL X1 w.heap.size 3) w2 (.agg #[.slice V m.n cv, .slice Fa m.k cf]) m := HM1.out.step hst.z
  have hl2 : ∀ i, XL X1 w.heap.size 3 i → i < w2.heap.size := fun i hi => by
    rcases hi with e | e
    · exact hS2.xlt i e
    · have := hst.kept.size; omega
  have hAB : Kept (SB base) wd w2 := hst.kept.mono (fun i hi => HR.out.stk.low i hi)
  have a2 := hba.cell 2
  have a3 := hba.cell 3
  have a4 := hba.cell 4
  have a5 := hba.cell 5
  have m0 := hbm.cell 0
  have m1 := hbm.cell 1
  have hkf := (Kept.refl S0 w2).alloc (.cells #[.int .u16 s.closeF.op, .slice xA s.closeF.n xc, .slice xB s.closeF.m xe, .int .i64 (s.closeF.h : Int), .bool s.closeF.dead] 39)
  have MT := Lib.hid (mclose_is (hM2.kept0 hkf) HR.out.mwf (fun i hi => Nat.lt_of_lt_of_le (hl2 i hi) hkf.size))
  have HFX := Lib.hid (hfx.kept0 hkf)
  have HBX := Lib.hid (Blk.new w2 39 #[.int .u16 s.closeF.op, .slice xA s.closeF.n xc, .slice xB s.closeF.m xe, .int .i64 (s.closeF.h : Int), .bool s.closeF.dead])
  have HS2 := Lib.hid (hS2.kept0 hkf)
  have HST := Lib.hid (((Stp.of0 (X := X) HKD.out).trans hst).then0 hkf)
  have HBR2 := Lib.hid (hkf.blk hbr (fun x => x))
  have HX1 := Lib.hid hx1
  have m0 := (hkf.blk hbm (fun x => x)).cell 0
  have m1 := (hkf.blk hbm (fun x => x)).cell 1
  have hl3 : w.heap.size + 3 ≤ w2.heap.size := by have := hst.kept.size; omega
  clear hba hbm hbr hM2 hl2 hAB hS2 hst hx1 hxb a1 a2 a3 a4 a5 hfx hkf
  go_wp2_with fail
  refine MT.out.mono ?_
  rintro e1 w3 ⟨mv2, y, rfl, hfy, hm3, hk3⟩
  obtain ⟨V2, cv2, Fa2, cf2, hmv⟩ : ∃ V2 cv2 Fa2 cf2, mv2 = .agg #[.slice V2 m.close.n cv2, .slice Fa2 m.close.k cf2] := by
    obtain ⟨V2, cv2, Fa2, cf2, G2, h, _⟩ := hm3.ex
    exact ⟨V2, cv2, Fa2, cf2, h⟩
  obtain ⟨yA, yc, yB, ye, hye⟩ : ∃ yA yc yB ye, y = .agg #[.int .u16 m.closeF.op, .slice yA m.closeF.n yc, .slice yB m.closeF.m ye, .int .i64 (m.closeF.h : Int), .bool m.closeF.dead] := by
    obtain ⟨a, b, c, d, h, _, _⟩ := hfy
    exact ⟨a, b, c, d, h⟩
  subst hmv hye
  have hka := (Kept.refl S0 w3).alloc (.cells #[.slice V2 m.close.n cv2, .slice Fa2 m.close.k cf2] 45)
  have hkb := hka.alloc (.cells #[.int .u16 m.closeF.op, .slice yA m.closeF.n yc, .slice yB m.closeF.m ye, .int .i64 (m.closeF.h : Int), .bool m.closeF.dead] 39)
  have hkc := hkb.drew
  have hk4 := hk3.then0 hkc
  have hn1 : Blk (World.drew ((w3.alloc (.cells #[.slice V2 m.close.n cv2, .slice Fa2 m.close.k cf2] 45)).alloc (.cells #[.int .u16 m.closeF.op, .slice yA m.closeF.n yc, .slice yB m.closeF.m ye, .int .i64 (m.closeF.h : Int), .bool m.closeF.dead] 39))) w3.heap.size 45 #[.slice V2 m.close.n cv2, .slice Fa2 m.close.k cf2] := ((Blk.new w3 _ _).alloc _).drew
  have hn2 : Blk (World.drew ((w3.alloc (.cells #[.slice V2 m.close.n cv2, .slice Fa2 m.close.k cf2] 45)).alloc (.cells #[.int .u16 m.closeF.op, .slice yA m.closeF.n yc, .slice yB m.closeF.m ye, .int .i64 (m.closeF.h : Int), .bool m.closeF.dead] 39))) (w3.heap.size + 1) 39 #[.int .u16 m.closeF.op, .slice yA m.closeF.n yc, .slice yB m.closeF.m ye, .int .i64 (m.closeF.h : Int), .bool m.closeF.dead] := (Blk.new1 w3 _ _ _).drew
  have hnx := hk4.blk HBX.out (fun x => x)
  have hrr := hk4.blk HBR2.out (fun x => x)
  have SF := Lib.hid (sameF_is _ _ _ _ _ (HFX.out.kept0 hk4) (hfy.kept0 hkc))
  have hme := And.intro ((HS2.out.kept0 hk4)) (And.intro (hm3.kept0 hkc) (HST.out.then0 hk4))
  clear hka hkb
  go_wp2_with fail
  refine wp_region_R (fun w' => w'.cell? ⟨w3.heap.size, 0, none⟩ = some (.slice V2 m.close.n cv2) ∧ w'.cell? ⟨w3.heap.size, 1, none⟩ = some (.slice Fa2 m.close.k cf2) ∧ (w'.cell? ⟨w2.heap.size, 0, none⟩ = some (.int .u16 s.closeF.op) ∧ w'.cell? ⟨w2.heap.size, 1, none⟩ = some (.slice xA s.closeF.n xc) ∧ w'.cell? ⟨w2.heap.size, 2, none⟩ = some (.slice xB s.closeF.m xe) ∧ w'.cell? ⟨w2.heap.size, 3, none⟩ = some (.int .i64 (s.closeF.h : Int)) ∧ w'.cell? ⟨w2.heap.size, 4, none⟩ = some (.bool s.closeF.dead)) ∧ (w'.cell? ⟨w3.heap.size + 1, 0, none⟩ = some (.int .u16 m.closeF.op) ∧ w'.cell? ⟨w3.heap.size + 1, 1, none⟩ = some (.slice yA m.closeF.n yc) ∧ w'.cell? ⟨w3.heap.size + 1, 2, none⟩ = some (.slice yB m.closeF.m ye) ∧ w'.cell? ⟨w3.heap.size + 1, 3, none⟩ = some (.int .i64 (m.closeF.h : Int)) ∧ w'.cell? ⟨w3.heap.size + 1, 4, none⟩ = some (.bool m.closeF.dead))) [] (by kernel_rfl) ?_
  generalize World.drew ((w3.alloc (.cells #[.slice V2 m.close.n cv2, .slice Fa2 m.close.k cf2] 45)).alloc (.cells #[.int .u16 m.closeF.op, .slice yA m.closeF.n yc, .slice yB m.closeF.m ye, .int .i64 (m.closeF.h : Int), .bool m.closeF.dead] 39)) = w4 at *
  have mkS : ∀ W : World, Blk W w3.heap.size 45 #[.slice V2 m.close.n cv2, .slice Fa2 m.close.k cf2] → Blk W w2.heap.size 39 #[.int .u16 s.closeF.op, .slice xA s.closeF.n xc, .slice xB s.closeF.m xe, .int .i64 (s.closeF.h : Int), .bool s.closeF.dead] → Blk W (w3.heap.size + 1) 39 #[.int .u16 m.closeF.op, .slice yA m.closeF.n yc, .slice yB m.closeF.m ye, .int .i64 (m.closeF.h : Int), .bool m.closeF.dead] → _ := fun W p1 p2 p3 => And.intro (p1.cell 0) (And.intro (p1.cell 1) (And.intro (And.intro (p2.cell 0) (And.intro (p2.cell 1) (And.intro (p2.cell 2) (And.intro (p2.cell 3) (p2.cell 4))))) (And.intro (p3.cell 0) (And.intro (p3.cell 1) (And.intro (p3.cell 2) (And.intro (p3.cell 3) (p3.cell 4)))))))
  have MKS := Lib.hid mkS
  have hS := mkS w4 hn1 hnx hn2
  have HB4 := Lib.hid (And.intro hn1 (And.intro hnx (And.intro hn2 hrr)))
  have HME := Lib.hid hme
  have HK34 := Lib.hid hk3
  clear mkS hn1 hnx hn2 hrr hme hk3 hk4 hkc hm3 hfy m0 m1 HFX HBX
  refine wpAnyR_take 0 (v := ?_) rfl (by kernel_rfl) (by kernel_rfl) (by kernel_rfl) (by kernel_rfl) (fun _ _ _ h => h) hS ⟨by rfl, ?_⟩ ?_
  rotate_left; (intro w hSw; (try dsimp only at hSw); first | (go_simp; done) | (go_simp; with_reducible rfl))
  simp only [List.getElem_toArray, List.getElem_cons_zero, Act.put, List.setIfInBounds_toArray, List.set_cons_zero, List.set_cons_succ]
  refine wpAnyR_take 1 (v := ?_) rfl (by kernel_rfl) (by kernel_rfl) (by kernel_rfl) (by kernel_rfl) (fun _ _ _ h => h) hS ⟨by rfl, ?_⟩ ?_
  rotate_left; (intro w hSw; (try dsimp only at hSw); first | (go_simp; done) | (go_simp; with_reducible rfl))
  simp only [List.getElem_toArray, List.getElem_cons_zero, List.getElem_cons_succ, Act.put, List.setIfInBounds_toArray, List.set_cons_zero, List.set_cons_succ]
  refine wpAnyR_take 2 (v := ?_) rfl (by kernel_rfl) (by kernel_rfl) (by kernel_rfl) (by kernel_rfl) (fun _ _ _ h => h) hS ⟨by rfl, ?_⟩ ?_
  rotate_left; (intro w hSw; (try dsimp only at hSw); first | (go_simp; done) | (go_simp; with_reducible rfl))
  simp only [List.getElem_toArray, List.getElem_cons_zero, List.getElem_cons_succ, Act.put, List.setIfInBounds_toArray, List.set_cons_zero, List.set_cons_succ]
  refine wpAnyR_one 3 rfl (by kernel_rfl) (fun K hK3 => ?_)
  go_simp
  go_at_call 35
  refine SF.out.mono ?_
  rintro e1 w5 ⟨bb, rfl, hbb, hk5⟩
  have n1 := hk5.blk HB4.out.1 (fun x => x)
  have n2 := hk5.blk HB4.out.2.1 (fun x => x)
  have n3 := hk5.blk HB4.out.2.2.1 (fun x => x)
  have n4 := hk5.blk HB4.out.2.2.2 (fun x => x)
  have hS5 := MKS.out w5 n1 n2 n3
  refine hK3.out _ _ (fun _ => hS5) ?_
  clear hK3 K
  refine wpAnyR_take 4 (v := ?_) rfl (by kernel_rfl) (by kernel_rfl) (by kernel_rfl) (by kernel_rfl) (fun _ _ _ h => h) hS5 ⟨by rfl, ?_⟩ ?_
  rotate_left; (intro w hSw; (try dsimp only at hSw); first | (go_simp; done) | (go_simp; with_reducible rfl))
  simp only [List.getElem_toArray, List.getElem_cons_zero, List.getElem_cons_succ, Act.put, List.setIfInBounds_toArray, List.set_cons_zero, List.set_cons_succ]
  have HBB := Lib.hid hbb
  have hl5 : w.heap.size + 3 ≤ w3.heap.size := Nat.le_trans hl3 (by have := HK34.out.size; simp at this; omega)
  obtain ⟨wf, hwf, q1, q2, q3, q4⟩ := both_end rfl (by omega) (HME.out.1.kept0 hk5) (HME.out.2.1.kept0 hk5) (HME.out.2.2.then0 hk5) HX1.out n4
  have hks := set2 w5 (w.heap.size + 1 + 1) (.slice V2 m.close.n cv2) (.slice Fa2 m.close.k cf2)
  rw [← hwf] at hks
  have hSf := MKS.out wf (hks.blk n1 (fun e => by have e' : w3.heap.size = w.heap.size + 1 + 1 := e; omega)) (hks.blk n2 (fun e => by have e' : w2.heap.size = w.heap.size + 1 + 1 := e; omega)) (hks.blk n3 (fun e => by have e' : w3.heap.size + 1 = w.heap.size + 1 + 1 := e; omega))
  have r0 := n4.cell 0
  have r1 := n4.cell 1
  have z0 := n4.frozen 0
  have z1 := n4.frozen 1
  have g0 := q4.cell 0
  have g1 := q4.cell 1
  have HQ := Lib.hid (And.intro q1 (And.intro q2 q3))
  have HF := Lib.hid hwf
  have HSF := Lib.hid hSf
  clear hbb q1 q2 q3 q4 hwf hks hSf n1 n2 n3 n4 hS hk5
  cases bb with
  | false =>
    refine wpAnyR_skip 5 rfl (by kernel_rfl) (by kernel_rfl) (by kernel_rfl) (by kernel_rfl) (fun _ _ _ h => h) (fun _ => hS5) (by rfl) ?_
    simp only [List.getElem_toArray, List.getElem_cons_zero, List.getElem_cons_succ, Act.put, List.setIfInBounds_toArray, List.set_cons_zero, List.set_cons_succ]
    refine wpAnyR_skip 6 rfl (by kernel_rfl) (by kernel_rfl) (by kernel_rfl) (by kernel_rfl) (fun _ _ _ h => h) (fun _ => hS5) (by rfl) ?_
    simp only [List.getElem_toArray, List.getElem_cons_zero, List.getElem_cons_succ, Act.put, List.setIfInBounds_toArray, List.set_cons_zero, List.set_cons_succ]
    refine wpAnyR_skip 7 rfl (by kernel_rfl) (by kernel_rfl) (by kernel_rfl) (by kernel_rfl) (fun _ _ _ h => h) (fun _ => hS5) (by rfl) ?_
    simp only [List.getElem_toArray, List.getElem_cons_zero, List.getElem_cons_succ, Act.put, List.setIfInBounds_toArray, List.set_cons_zero, List.set_cons_succ]
    refine wpAnyR_late 8 (v := ?_) rfl (by kernel_rfl) (by kernel_rfl) (by kernel_rfl) (by kernel_rfl) (fun _ _ _ h => h) (fun _ => hS5) ⟨by rfl, ?_⟩ ?_
    rotate_left; (intro w; first | (go_simp; done) | (go_simp; with_reducible rfl))
    simp only [List.getElem_toArray, List.getElem_cons_zero, List.getElem_cons_succ, Act.put, List.setIfInBounds_toArray, List.set_cons_zero, List.set_cons_succ]
    refine wpAnyR_one 9 rfl (by kernel_rfl) (fun K hK9 => ?_)
    go_simp
    refine hK9.out _ _ (fun _ => by rw [← HF.out]; exact HSF.out) ?_
    clear hK9 K
    rw [← HF.out]
    refine wpAnyR_late 10 (v := ?_) rfl (by kernel_rfl) (by kernel_rfl) (by kernel_rfl) (by kernel_rfl) (fun _ _ _ h => h) (fun _ => HSF.out) ⟨by rfl, ?_⟩ ?_
    rotate_left; (intro w; first | (go_simp; done) | (go_simp; with_reducible rfl))
    simp only [List.getElem_toArray, List.getElem_cons_zero, List.getElem_cons_succ, Act.put, List.setIfInBounds_toArray, List.set_cons_zero, List.set_cons_succ]
    refine wpAnyR_done (by kernel_rfl) ?_ _
    clear hS5 r0 r1 z0 z1
    go_wp2_with fail
    exact bodyPost_ret (v := .tuple #[.agg #[.slice V2 m.close.n cv2, .slice Fa2 m.close.k cf2], .bool false]) (by simp [results, Try.results20, go_sem, g0, g1]) rfl ⟨_, _, X1, rfl, fun e => HBB.out (by rw [e]), HQ.out⟩
  | true =>
    refine wpAnyR_late 5 (v := ?_) rfl (by kernel_rfl) (by kernel_rfl) (by kernel_rfl) (by kernel_rfl) (fun _ _ _ h => h) (fun _ => hS5) ⟨by rfl, ?_⟩ ?_
    rotate_left; (intro w; first | (go_simp; done) | (go_simp; with_reducible rfl))
    simp only [List.getElem_toArray, List.getElem_cons_zero, List.getElem_cons_succ, Act.put, List.setIfInBounds_toArray, List.set_cons_zero, List.set_cons_succ]
    refine wpAnyR_late 6 (v := ?_) rfl (by kernel_rfl) (by kernel_rfl) (by kernel_rfl) (by kernel_rfl) (fun _ _ _ h => h) (fun _ => hS5) ⟨by rfl, ?_⟩ ?_
    rotate_left; (intro w; first | (go_simp; done) | (go_simp; with_reducible rfl))
    simp only [List.getElem_toArray, List.getElem_cons_zero, List.getElem_cons_succ, Act.put, List.setIfInBounds_toArray, List.set_cons_zero, List.set_cons_succ]
    refine wpAnyR_late 7 (v := ?_) rfl (by kernel_rfl) (by kernel_rfl) (by kernel_rfl) (by kernel_rfl) (fun _ _ _ h => h) (fun _ => hS5) ⟨by rfl, ?_⟩ ?_
    rotate_left; (intro w; first | (go_simp; done) | (go_simp; with_reducible rfl))
    simp only [List.getElem_toArray, List.getElem_cons_zero, List.getElem_cons_succ, Act.put, List.setIfInBounds_toArray, List.set_cons_zero, List.set_cons_succ]
    refine wpAnyR_late 8 (v := ?_) rfl (by kernel_rfl) (by kernel_rfl) (by kernel_rfl) (by kernel_rfl) (fun _ _ _ h => h) (fun _ => hS5) ⟨by rfl, ?_⟩ ?_
    rotate_left; (intro w; first | (go_simp; done) | (go_simp; with_reducible rfl))
    simp only [List.getElem_toArray, List.getElem_cons_zero, List.getElem_cons_succ, Act.put, List.setIfInBounds_toArray, List.set_cons_zero, List.set_cons_succ]
    refine wpAnyR_one 9 rfl (by kernel_rfl) (fun K hK9 => ?_)
    go_simp
    refine hK9.out _ _ (fun _ => by rw [← HF.out]; exact HSF.out) ?_
    clear hK9 K
    rw [← HF.out]
    refine wpAnyR_late 10 (v := ?_) rfl (by kernel_rfl) (by kernel_rfl) (by kernel_rfl) (by kernel_rfl) (fun _ _ _ h => h) (fun _ => HSF.out) ⟨by rfl, ?_⟩ ?_
    rotate_left; (intro w; first | (go_simp; done) | (go_simp; with_reducible rfl))
    simp only [List.getElem_toArray, List.getElem_cons_zero, List.getElem_cons_succ, Act.put, List.setIfInBounds_toArray, List.set_cons_zero, List.set_cons_succ]
    refine wpAnyR_done (by kernel_rfl) ?_ _
    clear hS5 r0 r1 z0 z1
    go_wp2_with fail
    exact bodyPost_ret (v := .tuple #[.agg #[.slice V2 m.close.n cv2, .slice Fa2 m.close.k cf2], .bool (s.closeE == m.closeE)]) (by simp [results, Try.results20, go_sem, g0, g1]) rfl ⟨_, _, X1, rfl, fun e => by rw [e]; simp, HQ.out⟩
end
end Go.Proofs.Ytpbaojjcbpfdaaa
