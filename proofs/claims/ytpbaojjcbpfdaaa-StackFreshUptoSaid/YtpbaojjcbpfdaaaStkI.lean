/- Contracts of Close where it is refused. No condition. -/
import Derived.Test.YtpbaojjcbpfdaaaStkH
namespace Go.Proofs.Ytpbaojjcbpfdaaa
open Go.RowKit

section
variable {w : World} {sb base n k : Nat} {v : Nat → UInt8} {lv lf : Value} {F : Nat → Value}

set_option maxHeartbeats 3200000 in
theorem close_bad (g q c h m : Nat) (op : Int) (x y : Value) (u : Nat → UInt8) (dead : Bool) (hm : StkAt w sb base n v lv (q + 1) F (.slice (some ⟨g, 0, none⟩) (q + 1) c)) (hf : FrAt F q op x y h dead) (hx : ∃ A n c, x = .slice A n c) (hy : ∃ A c, y = .slice A m c ∧ Came (S1 sb) w A m c u) (hn : n ≤ 140737488351232) (hq : q ≤ 140737488351232) (hhn : h ≤ n) (hp : pops v h dead u m n = none) :
    Calls Try.prog 19 #[.pointer (some ⟨sb, 0, none⟩)] w fun e w' => e = .returned (.tuple #[.agg #[.int .u16 0, .slice none 0 0, .slice none 0 0, .int .i64 0, .bool false], .int .i64 5]) ∧ StkAt w' sb base n v lv (q + 1) F (.slice (some ⟨g, 0, none⟩) (q + 1) c) ∧ Kept (S1 sb) w w' := by
  have hgs : g ≠ sb := fun e => hm.ne_f (by rw [← e]; rfl)
  have hKa := (Kept.refl S0 w).alloc (.cells #[.int .u16 0, .slice none 0 0, .slice none 0 0, .int .i64 0, .bool false] 39)
  have hma := hm.kept0 hKa
  have hra := Blk.new w 39 #[.int .u16 0, .slice none 0 0, .slice none 0 0, .int .i64 0, .bool false]
  have hsr : w.heap.size ≠ sb := Nat.ne_of_gt hm.obj.lt
  have hgr : w.heap.size ≠ g := Nat.ne_of_gt (hm.frs.lt g rfl).2
  have hfr2 : ∀ g', (Value.slice (some ⟨g, 0, none⟩) (q + 1) c).ownBlock = some g' → ¬ S1 w.heap.size g' := fun g' hg e => by have := (hm.frs.lt g' hg).2; have e' : g' = w.heap.size := e; omega
  obtain ⟨xA, xn, xc, rfl⟩ := hx
  obtain ⟨yA, yc, rfl, hcm0⟩ := hy
  have hcame : Came (S2 sb w.heap.size) w yA m yc u := hcm0.new
  have hvr : ∀ g', lv.ownBlock = some g' → ¬ S1 w.heap.size g' := fun g' hg e => by have := (hm.vals.lt g' hg).2; have e' : g' = w.heap.size := e; omega
  have hlw := hm.obj.lt
  go_enter Try.func19, Try.ntmps19
  go_wp2_with fail
  generalize w.alloc (.cells #[.int .u16 0, .slice none 0 0, .slice none 0 0, .int .i64 0, .bool false] 39) = wa at *
  generalize hrb : w.heap.size = rb at *
  have c0 := hma.c0
  have c1 := hma.c1
  have c2 := hma.c2
  obtain ⟨Av, cv, hlv, _, _, _⟩ := hma.vals.out
  rw [hlv] at c1
  have b1 : ((q : Int) + 1 == 0) = false := beq_eq_false_iff_ne.2 (by omega)
  have TP := Lib.hid (top_any (sb := sb) g q c wa c2 hq)
  obtain ⟨g2, cap, fr, hfe, hbg, hc1, hc2, hrow, hF, hQ⟩ := hma.frs.resolve_left (fun h => by cases h.1)
  have hgg : g = g2 ∧ c = cap := by cases hfe; exact ⟨rfl, rfl⟩
  obtain ⟨rfl, rfl⟩ := hgg
  have f0 : wa.cell? ⟨g, q * 5, none⟩ = some (.int .u16 op) := by rw [← hf.f0, ← hF _ (by omega)]; exact hrow.cell (by omega)
  have f1 : wa.cell? ⟨g, q * 5 + 1, none⟩ = some (.slice xA xn xc) := by rw [← hf.f1, ← hF _ (by omega)]; exact hrow.cell (by omega)
  have f2 : wa.cell? ⟨g, q * 5 + 2, none⟩ = some (.slice yA m yc) := by rw [← hf.f2, ← hF _ (by omega)]; exact hrow.cell (by omega)
  have f3 : wa.cell? ⟨g, q * 5 + 3, none⟩ = some (.int .i64 (h : Int)) := by rw [← hf.f3, ← hF _ (by omega)]; exact hrow.cell (by omega)
  have f4 : wa.cell? ⟨g, q * 5 + 4, none⟩ = some (.bool dead) := by rw [← hf.f4, ← hF _ (by omega)]; exact hrow.cell (by omega)
  have r0 := hra.cell 0
  have r1 := hra.cell 1
  have r2 := hra.cell 2
  have r3 := hra.cell 3
  have r4 := hra.cell 4
  have z0 := hra.frozen 0
  have z1 := hra.frozen 1
  have z2 := hra.frozen 2
  have z3 := hra.frozen 3
  have z4 := hra.frozen 4
  have HMA := Lib.hid hma
  have HRA := Lib.hid hra
  have HF := Lib.hid hf
  have HKA := Lib.hid hKa
  have HC := Lib.hid hcame
  clear hm hma hra hrow hF hQ hfe hKa hcame hcm0 hf
  refine (off_made _ _ c0).mono ?_
  rintro e w1 ⟨rfl, rfl⟩
  go_wp2_with fail
  refine TP.out.mono ?_
  rintro e w1 ⟨rfl, m1, rfl⟩
  go_wp2_with fail
  have hks : Kept (S1 rb) wa ((((((wa.drewN m1).setCell ⟨rb, 0, none⟩ (.int .u16 op)).setCell ⟨rb, 1, none⟩ (.slice xA xn xc)).setCell ⟨rb, 2, none⟩ (.slice yA m yc)).setCell ⟨rb, 3, none⟩ (.int .i64 (h : Int))).setCell ⟨rb, 4, none⟩ (.bool dead)) :=
    ((((((Kept.refl (S1 rb) wa).drewN m1).setCell (p := ⟨rb, 0, none⟩) (.inl rfl) _).setCell (p := ⟨rb, 1, none⟩) (.inl rfl) _).setCell (p := ⟨rb, 2, none⟩) (.inl rfl) _).setCell (p := ⟨rb, 3, none⟩) (.inl rfl) _).setCell (p := ⟨rb, 4, none⟩) (.inl rfl) _
  have hrs : Blk ((((((wa.drewN m1).setCell ⟨rb, 0, none⟩ (.int .u16 op)).setCell ⟨rb, 1, none⟩ (.slice xA xn xc)).setCell ⟨rb, 2, none⟩ (.slice yA m yc)).setCell ⟨rb, 3, none⟩ (.int .i64 (h : Int))).setCell ⟨rb, 4, none⟩ (.bool dead)) rb 39 #[.int .u16 op, .slice xA xn xc, .slice yA m yc, .int .i64 (h : Int), .bool dead] :=
    (((((HRA.out.drewN m1).set_ 0 _).set_ 1 _).set_ 2 _).set_ 3 _).set_ 4 _
  generalize (((((wa.drewN m1).setCell ⟨rb, 0, none⟩ (.int .u16 op)).setCell ⟨rb, 1, none⟩ (.slice xA xn xc)).setCell ⟨rb, 2, none⟩ (.slice yA m yc)).setCell ⟨rb, 3, none⟩ (.int .i64 (h : Int))).setCell ⟨rb, 4, none⟩ (.bool dead) = ws at *
  have hms := HMA.out.kept hks (fun e => hsr e.symm) hvr hfr2
  have hcs : Came (S1 sb) ws yA m yc u := ((HC.out.kept (HKA.out.of0 _)).kept (hks.mono (fun i hi => .inr hi))).mono (fun i hi => .inl hi)
  have TA := Lib.hid (takeAll_bad g q c m yc h yA u dead hms hcs hn hq HF.out.f3 HF.out.f4 hhn hp)
  have HKS := Lib.hid hks
  have HRS := Lib.hid hrs
  clear c0 c1 c2 f0 f1 f2 f3 f4 r0 r1 r2 r3 r4 z0 z1 z2 z3 z4 TP hks hrs hms hcs HRA HMA
  refine TA.out.mono ?_
  rintro e w2 ⟨rfl, hm2, hk2⟩
  have hr2 := hk2.blk HRS.out (fun e => hsr e)
  have s0 := hr2.cell 0
  have s1 := hr2.cell 1
  have s2 := hr2.cell 2
  have s3 := hr2.cell 3
  have s4 := hr2.cell 4
  have v0 := hr2.frozen 0
  have v1 := hr2.frozen 1
  have v2 := hr2.frozen 2
  have v3 := hr2.frozen 3
  have v4 := hr2.frozen 4
  have HMX := Lib.hid hm2
  have HRX := Lib.hid hr2
  have HKX := Lib.hid hk2
  clear hm2 hr2 hk2 TA
  go_wp2_with fail
  have hk5 : Kept (S1 rb) w2 (((((w2.setCell ⟨rb, 0, none⟩ (.int .u16 0)).setCell ⟨rb, 1, none⟩ (.slice none 0 0)).setCell ⟨rb, 2, none⟩ (.slice none 0 0)).setCell ⟨rb, 3, none⟩ (.int .i64 0)).setCell ⟨rb, 4, none⟩ (.bool false)) :=
    (((((Kept.refl (S1 rb) _).setCell (p := ⟨rb, 0, none⟩) (.inl rfl) _).setCell (p := ⟨rb, 1, none⟩) (.inl rfl) _).setCell (p := ⟨rb, 2, none⟩) (.inl rfl) _).setCell (p := ⟨rb, 3, none⟩) (.inl rfl) _).setCell (p := ⟨rb, 4, none⟩) (.inl rfl) _
  have hr5 : Blk (((((w2.setCell ⟨rb, 0, none⟩ (.int .u16 0)).setCell ⟨rb, 1, none⟩ (.slice none 0 0)).setCell ⟨rb, 2, none⟩ (.slice none 0 0)).setCell ⟨rb, 3, none⟩ (.int .i64 0)).setCell ⟨rb, 4, none⟩ (.bool false)) rb 39 #[.int .u16 0, .slice none 0 0, .slice none 0 0, .int .i64 0, .bool false] :=
    ((((HRX.out.set_ 0 _).set_ 1 _).set_ 2 _).set_ 3 _).set_ 4 _
  generalize (((((w2.setCell ⟨rb, 0, none⟩ (.int .u16 0)).setCell ⟨rb, 1, none⟩ (.slice none 0 0)).setCell ⟨rb, 2, none⟩ (.slice none 0 0)).setCell ⟨rb, 3, none⟩ (.int .i64 0)).setCell ⟨rb, 4, none⟩ (.bool false)) = wf at *
  have e0 := hr5.cell 0
  have e1 := hr5.cell 1
  have e2 := hr5.cell 2
  have e3 := hr5.cell 3
  have e4 := hr5.cell 4
  have hfin : StkAt wf sb base n v lv (q + 1) F (.slice (some ⟨g, 0, none⟩) (q + 1) c) := HMX.out.kept hk5 (fun e => hsr e.symm) hvr hfr2
  have hkk : Kept (S1 sb) w wf := by
    refine Kept.trans_ (S' := S1 rb) ?_ hk5 (fun i hi => .inr (by have e : i = rb := hi; omega))
    refine Kept.trans ?_ HKX.out
    exact Kept.trans_ (S' := S1 rb) (HKA.out.of0 _) HKS.out (fun i hi => .inr (by have e : i = rb := hi; omega))
  exact bodyPost_ret (v := .tuple #[.agg #[.int .u16 0, .slice none 0 0, .slice none 0 0, .int .i64 0, .bool false], .int .i64 5]) (by simp [results, Try.results19, go_sem, e0, e1, e2, e3, e4]) rfl ⟨rfl, hfin, hkk⟩

set_option maxHeartbeats 3200000 in
theorem close_short (g q c h m nf : Nat) (op : Int) (x y : Value) (u : Nat → UInt8) (dead : Bool) (hm : StkAt w sb base n v lv (q + 1) F (.slice (some ⟨g, 0, none⟩) (q + 1) c)) (hf : FrAt F q op x y h dead) (hx : ∃ A n c, x = .slice A n c) (hy : ∃ A c, y = .slice A m c ∧ Came (S1 sb) w A m c u) (hn : n ≤ 140737488351232) (hq : q ≤ 140737488351232) (hhn : h ≤ n) (hp : pops v h dead u m n = some nf) (hne : nf ≠ h) :
    Calls Try.prog 19 #[.pointer (some ⟨sb, 0, none⟩)] w fun e w' => e = .returned (.tuple #[.agg #[.int .u16 0, .slice none 0 0, .slice none 0 0, .int .i64 0, .bool false], .int .i64 5]) ∧ StkAt w' sb base n v lv (q + 1) F (.slice (some ⟨g, 0, none⟩) (q + 1) c) ∧ Kept (S1 sb) w w' := by
  have hgs : g ≠ sb := fun e => hm.ne_f (by rw [← e]; rfl)
  have hKa := (Kept.refl S0 w).alloc (.cells #[.int .u16 0, .slice none 0 0, .slice none 0 0, .int .i64 0, .bool false] 39)
  have hma := hm.kept0 hKa
  have hra := Blk.new w 39 #[.int .u16 0, .slice none 0 0, .slice none 0 0, .int .i64 0, .bool false]
  have hsr : w.heap.size ≠ sb := Nat.ne_of_gt hm.obj.lt
  have hgr : w.heap.size ≠ g := Nat.ne_of_gt (hm.frs.lt g rfl).2
  have hfr2 : ∀ g', (Value.slice (some ⟨g, 0, none⟩) (q + 1) c).ownBlock = some g' → ¬ S1 w.heap.size g' := fun g' hg e => by have := (hm.frs.lt g' hg).2; have e' : g' = w.heap.size := e; omega
  obtain ⟨xA, xn, xc, rfl⟩ := hx
  obtain ⟨yA, yc, rfl, hcm0⟩ := hy
  have hcame : Came (S2 sb w.heap.size) w yA m yc u := hcm0.new
  have hvr : ∀ g', lv.ownBlock = some g' → ¬ S1 w.heap.size g' := fun g' hg e => by have := (hm.vals.lt g' hg).2; have e' : g' = w.heap.size := e; omega
  have hlw := hm.obj.lt
  go_enter Try.func19, Try.ntmps19
  go_wp2_with fail
  generalize w.alloc (.cells #[.int .u16 0, .slice none 0 0, .slice none 0 0, .int .i64 0, .bool false] 39) = wa at *
  generalize hrb : w.heap.size = rb at *
  have c0 := hma.c0
  have c1 := hma.c1
  have c2 := hma.c2
  obtain ⟨Av, cv, hlv, _, _, _⟩ := hma.vals.out
  rw [hlv] at c1
  have b1 : ((q : Int) + 1 == 0) = false := beq_eq_false_iff_ne.2 (by omega)
  have TP := Lib.hid (top_any (sb := sb) g q c wa c2 hq)
  obtain ⟨g2, cap, fr, hfe, hbg, hc1, hc2, hrow, hF, hQ⟩ := hma.frs.resolve_left (fun h => by cases h.1)
  have hgg : g = g2 ∧ c = cap := by cases hfe; exact ⟨rfl, rfl⟩
  obtain ⟨rfl, rfl⟩ := hgg
  have f0 : wa.cell? ⟨g, q * 5, none⟩ = some (.int .u16 op) := by rw [← hf.f0, ← hF _ (by omega)]; exact hrow.cell (by omega)
  have f1 : wa.cell? ⟨g, q * 5 + 1, none⟩ = some (.slice xA xn xc) := by rw [← hf.f1, ← hF _ (by omega)]; exact hrow.cell (by omega)
  have f2 : wa.cell? ⟨g, q * 5 + 2, none⟩ = some (.slice yA m yc) := by rw [← hf.f2, ← hF _ (by omega)]; exact hrow.cell (by omega)
  have f3 : wa.cell? ⟨g, q * 5 + 3, none⟩ = some (.int .i64 (h : Int)) := by rw [← hf.f3, ← hF _ (by omega)]; exact hrow.cell (by omega)
  have f4 : wa.cell? ⟨g, q * 5 + 4, none⟩ = some (.bool dead) := by rw [← hf.f4, ← hF _ (by omega)]; exact hrow.cell (by omega)
  have r0 := hra.cell 0
  have r1 := hra.cell 1
  have r2 := hra.cell 2
  have r3 := hra.cell 3
  have r4 := hra.cell 4
  have z0 := hra.frozen 0
  have z1 := hra.frozen 1
  have z2 := hra.frozen 2
  have z3 := hra.frozen 3
  have z4 := hra.frozen 4
  have HMA := Lib.hid hma
  have HRA := Lib.hid hra
  have HF := Lib.hid hf
  have HKA := Lib.hid hKa
  have HC := Lib.hid hcame
  clear hm hma hra hrow hF hQ hfe hKa hcame hcm0 hf
  refine (off_made _ _ c0).mono ?_
  rintro e w1 ⟨rfl, rfl⟩
  go_wp2_with fail
  refine TP.out.mono ?_
  rintro e w1 ⟨rfl, m1, rfl⟩
  go_wp2_with fail
  have hks : Kept (S1 rb) wa ((((((wa.drewN m1).setCell ⟨rb, 0, none⟩ (.int .u16 op)).setCell ⟨rb, 1, none⟩ (.slice xA xn xc)).setCell ⟨rb, 2, none⟩ (.slice yA m yc)).setCell ⟨rb, 3, none⟩ (.int .i64 (h : Int))).setCell ⟨rb, 4, none⟩ (.bool dead)) :=
    ((((((Kept.refl (S1 rb) wa).drewN m1).setCell (p := ⟨rb, 0, none⟩) (.inl rfl) _).setCell (p := ⟨rb, 1, none⟩) (.inl rfl) _).setCell (p := ⟨rb, 2, none⟩) (.inl rfl) _).setCell (p := ⟨rb, 3, none⟩) (.inl rfl) _).setCell (p := ⟨rb, 4, none⟩) (.inl rfl) _
  have hrs : Blk ((((((wa.drewN m1).setCell ⟨rb, 0, none⟩ (.int .u16 op)).setCell ⟨rb, 1, none⟩ (.slice xA xn xc)).setCell ⟨rb, 2, none⟩ (.slice yA m yc)).setCell ⟨rb, 3, none⟩ (.int .i64 (h : Int))).setCell ⟨rb, 4, none⟩ (.bool dead)) rb 39 #[.int .u16 op, .slice xA xn xc, .slice yA m yc, .int .i64 (h : Int), .bool dead] :=
    (((((HRA.out.drewN m1).set_ 0 _).set_ 1 _).set_ 2 _).set_ 3 _).set_ 4 _
  generalize (((((wa.drewN m1).setCell ⟨rb, 0, none⟩ (.int .u16 op)).setCell ⟨rb, 1, none⟩ (.slice xA xn xc)).setCell ⟨rb, 2, none⟩ (.slice yA m yc)).setCell ⟨rb, 3, none⟩ (.int .i64 (h : Int))).setCell ⟨rb, 4, none⟩ (.bool dead) = ws at *
  have hms := HMA.out.kept hks (fun e => hsr e.symm) hvr hfr2
  have hcs : Came (S1 sb) ws yA m yc u := ((HC.out.kept (HKA.out.of0 _)).kept (hks.mono (fun i hi => .inr hi))).mono (fun i hi => .inl hi)
  have TA := Lib.hid (takeAll_ok g q c m yc h nf yA u dead hms hcs hn hq HF.out.f3 HF.out.f4 hhn hp)
  have HKS := Lib.hid hks
  have HRS := Lib.hid hrs
  have HMS := Lib.hid hms
  clear c0 c1 c2 f0 f1 f2 f3 f4 r0 r1 r2 r3 r4 z0 z1 z2 z3 z4 TP hks hrs hms hcs HRA HMA
  refine TA.out.mono ?_
  rintro e w2 ⟨rfl, _, _, lj, hm2, hk2, hlj⟩
  have hr2 := hk2.blk HRS.out (fun e => hsr e)
  have t1 := hm2.c1
  obtain ⟨A2, c2, hl2, _, _, _⟩ := hm2.vals.out
  rw [hl2] at t1
  have y1 := hm2.obj.frozen 1
  have s3 := hr2.cell 3
  have b2 : ((nf : Int) != (h : Int)) = true := by simp; omega
  have HM2 := Lib.hid hm2
  have HR2 := Lib.hid hr2
  have HK2 := Lib.hid hk2
  clear hm2 hr2 hk2 TA
  go_wp2_with fail
  go_quiet (fail)
  have hk3 := (Kept.refl S0 w2).drewN nq
  have hm3 := HM2.out.kept0 hk3
  have hr3 := hk3.blk HR2.out (fun x => x)
  have hK3 := HK2.out.then0 hk3
  generalize w2.drewN nq = w3 at *
  obtain ⟨hm4, hk4⟩ := HMS.out.back hm3 hK3
  have hr4 : Blk (w3.setCell ⟨sb, 1, none⟩ lv) rb 39 _ := hr3.far (p := ⟨sb, 1, none⟩) (fun e => hsr e) _
  rw [hlv] at hm4 hk4 hr4
  have t3 := hm3.c1
  rw [hl2] at t3
  have y3 := hm3.obj.frozen 1
  have s0 := hr4.cell 0
  have s1 := hr4.cell 1
  have s2 := hr4.cell 2
  have s3' := hr4.cell 3
  have s4 := hr4.cell 4
  have v0 := hr4.frozen 0
  have v1 := hr4.frozen 1
  have v2 := hr4.frozen 2
  have v3 := hr4.frozen 3
  have v4 := hr4.frozen 4
  have HMX := Lib.hid hm4
  have HRX := Lib.hid hr4
  have HKX := Lib.hid hk4
  clear hm3 hr3 hm4 hk4 hr4 hk3 hK3 t1 y1 s3
  go_wp2_with fail
  rw [hlv] at hvr ⊢
  have hk5 : Kept (S1 rb) (w3.setCell ⟨sb, 1, none⟩ (.slice Av n cv)) ((((((w3.setCell ⟨sb, 1, none⟩ (.slice Av n cv)).setCell ⟨rb, 0, none⟩ (.int .u16 0)).setCell ⟨rb, 1, none⟩ (.slice none 0 0)).setCell ⟨rb, 2, none⟩ (.slice none 0 0)).setCell ⟨rb, 3, none⟩ (.int .i64 0)).setCell ⟨rb, 4, none⟩ (.bool false)) :=
    (((((Kept.refl (S1 rb) _).setCell (p := ⟨rb, 0, none⟩) (.inl rfl) _).setCell (p := ⟨rb, 1, none⟩) (.inl rfl) _).setCell (p := ⟨rb, 2, none⟩) (.inl rfl) _).setCell (p := ⟨rb, 3, none⟩) (.inl rfl) _).setCell (p := ⟨rb, 4, none⟩) (.inl rfl) _
  have hr5 : Blk ((((((w3.setCell ⟨sb, 1, none⟩ (.slice Av n cv)).setCell ⟨rb, 0, none⟩ (.int .u16 0)).setCell ⟨rb, 1, none⟩ (.slice none 0 0)).setCell ⟨rb, 2, none⟩ (.slice none 0 0)).setCell ⟨rb, 3, none⟩ (.int .i64 0)).setCell ⟨rb, 4, none⟩ (.bool false)) rb 39 #[.int .u16 0, .slice none 0 0, .slice none 0 0, .int .i64 0, .bool false] :=
    ((((HRX.out.set_ 0 _).set_ 1 _).set_ 2 _).set_ 3 _).set_ 4 _
  generalize ((((((w3.setCell ⟨sb, 1, none⟩ (.slice Av n cv)).setCell ⟨rb, 0, none⟩ (.int .u16 0)).setCell ⟨rb, 1, none⟩ (.slice none 0 0)).setCell ⟨rb, 2, none⟩ (.slice none 0 0)).setCell ⟨rb, 3, none⟩ (.int .i64 0)).setCell ⟨rb, 4, none⟩ (.bool false)) = wf at *
  have e0 := hr5.cell 0
  have e1 := hr5.cell 1
  have e2 := hr5.cell 2
  have e3 := hr5.cell 3
  have e4 := hr5.cell 4
  have hfin : StkAt wf sb base n v (.slice Av n cv) (q + 1) F (.slice (some ⟨g, 0, none⟩) (q + 1) c) := HMX.out.kept hk5 (fun e => hsr e.symm) hvr hfr2
  have hkk : Kept (S1 sb) w wf := by
    refine Kept.trans_ (S' := S1 rb) ?_ hk5 (fun i hi => .inr (by have e : i = rb := hi; omega))
    refine Kept.trans ?_ HKX.out
    exact Kept.trans_ (S' := S1 rb) (HKA.out.of0 _) HKS.out (fun i hi => .inr (by have e : i = rb := hi; omega))
  exact bodyPost_ret (v := .tuple #[.agg #[.int .u16 0, .slice none 0 0, .slice none 0 0, .int .i64 0, .bool false], .int .i64 5]) (by simp [results, Try.results19, go_sem, e0, e1, e2, e3, e4]) rfl ⟨rfl, hfin, hkk⟩
end
end Go.Proofs.Ytpbaojjcbpfdaaa
