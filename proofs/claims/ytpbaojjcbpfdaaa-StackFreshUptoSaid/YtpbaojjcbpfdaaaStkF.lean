/- Contracts of Close. No condition. -/
import Derived.Test.YtpbaojjcbpfdaaaStkE
namespace Go.Proofs.Ytpbaojjcbpfdaaa
open Go.RowKit

theorem Try.sizeFr : (Try.prog.info? 39).map (·.size) = some 5 := by kernel_rfl

/-- An owned list of bytes, as a list that came. -/
theorem came_own {S : Nat → Prop} {w : World} {base n : Nat} {y : Value} {u : Nat → UInt8} (h : Own w base 30 1 IsByte y n (byteV u)) (hS : ∀ g, y.ownBlock = some g → ¬ S g) (hn : n ≤ 140737488351232) : ∃ A c, y = .slice A n c ∧ Came S w A n c u := by
  rcases h with ⟨rfl, rfl⟩ | ⟨g, cap, fr, rfl, h2, h3, h4, h5, h6, h7⟩
  · exact ⟨none, 0, rfl, { sl := fun h => absurd h (by omega), none := fun _ => ⟨rfl, rfl⟩, le := hn }⟩
  · refine ⟨_, cap, rfl, { sl := fun _ => ⟨g, 0, rfl, hS g rfl, fun i hi => ?_⟩, none := fun h => (by cases h), le := hn }⟩
    rw [Nat.zero_add, ← h6 i (by omega)]
    exact h5.cell (by omega)

theorem Came.new {sb : Nat} {w : World} {A : Option Addr} {n c : Nat} {v : Nat → UInt8} (h : Came (S1 sb) w A n c v) : Came (S2 sb w.heap.size) w A n c v :=
  { sl := fun hn => (by
      obtain ⟨b, o, e, hb, r⟩ := h.sl hn
      have hlt : b < w.heap.size := World.block_lt_of_cell? _ _ (r 0 hn)
      exact ⟨b, o, e, fun x => x.elim hb (fun h2 => by omega), r⟩),
    none := h.none, le := h.le }

/-- A frame's five cells. -/
structure FrAt (F : Nat → Value) (q : Nat) (op : Int) (x y : Value) (h : Nat) (dead : Bool) : Prop where
  f0 : F (q * 5) = .int .u16 op
  f1 : F (q * 5 + 1) = x
  f2 : F (q * 5 + 2) = y
  f3 : F (q * 5 + 3) = .int .i64 (h : Int)
  f4 : F (q * 5 + 4) = .bool dead

section
variable {w : World} {sb base n k : Nat} {v : Nat → UInt8} {lv lf : Value} {F : Nat → Value}

set_option maxHeartbeats 1600000 in
theorem close_none (hm : StkAt w sb base n v lv 0 F lf) :
    Calls Try.prog 19 #[.pointer (some ⟨sb, 0, none⟩)] w fun e w' => e = .returned (.tuple #[.agg #[.int .u16 0, .slice none 0 0, .slice none 0 0, .int .i64 0, .bool false], .int .i64 5]) ∧ Kept S0 w w' := by
  have c0 := ((Kept.refl S0 w).alloc (.cells #[.int .u16 0, .slice none 0 0, .slice none 0 0, .int .i64 0, .bool false] 39)).blk hm.obj (fun x => x) |>.cell 0
  have c2 := ((Kept.refl S0 w).alloc (.cells #[.int .u16 0, .slice none 0 0, .slice none 0 0, .int .i64 0, .bool false] 39)).blk hm.obj (fun x => x) |>.cell 2
  obtain ⟨Af, cf, hlf, _, _, _⟩ := hm.frs.out
  rw [hlf] at c2
  have hK := (Kept.refl S0 w).alloc (.cells #[.int .u16 0, .slice none 0 0, .slice none 0 0, .int .i64 0, .bool false] 39)
  clear hm
  go_enter Try.func19, Try.ntmps19
  go_wp2_with fail
  refine (off_made _ _ c0).mono ?_
  rintro e w1 ⟨rfl, rfl⟩
  go_wp2_with fail
  exact bodyPost_ret (v := .tuple #[.agg #[.int .u16 0, .slice none 0 0, .slice none 0 0, .int .i64 0, .bool false], .int .i64 5]) (by simp [results, Try.results19, go_sem]) rfl ⟨rfl, hK⟩

set_option maxHeartbeats 3200000 in
theorem close_ok (g q c h m : Nat) (op : Int) (x y : Value) (u : Nat → UInt8) (dead : Bool) (hm : StkAt w sb base n v lv (q + 1) F (.slice (some ⟨g, 0, none⟩) (q + 1) c)) (hf : FrAt F q op x y h dead) (hx : ∃ A n c, x = .slice A n c) (hy : ∃ A c, y = .slice A m c ∧ Came (S1 sb) w A m c u) (hn : n ≤ 140737488351232) (hq : q ≤ 140737488351232) (hhn : h ≤ n) (hp : pops v h dead u m n = some h) :
    Calls Try.prog 19 #[.pointer (some ⟨sb, 0, none⟩)] w fun e w' => e = .returned (.tuple #[.agg #[.int .u16 op, x, y, .int .i64 (h : Int), .bool dead], .int .i64 0]) ∧ ∃ lj, StkAt w' sb base h v lj q F (.slice (some ⟨g, 0, none⟩) q c) ∧ Kept (S1 sb) w w' ∧ lj.ownBlock = lv.ownBlock := by
  have hgs : g ≠ sb := fun e => hm.ne_f (by rw [← e]; rfl)
  have hKa := (Kept.refl S0 w).alloc (.cells #[.int .u16 0, .slice none 0 0, .slice none 0 0, .int .i64 0, .bool false] 39)
  have hma := hm.kept0 hKa
  have hra := Blk.new w 39 #[.int .u16 0, .slice none 0 0, .slice none 0 0, .int .i64 0, .bool false]
  have hsr : w.heap.size ≠ sb := Nat.ne_of_gt hm.obj.lt
  have hgr : w.heap.size ≠ g := Nat.ne_of_gt (hm.frs.lt g rfl).2
  have hfr2 : ∀ g', (Value.slice (some ⟨g, 0, none⟩) (q + 1) c).ownBlock = some g' → ¬ S1 w.heap.size g' := fun g' hg e => by have := (hm.frs.lt g' hg).2; have e' : g' = w.heap.size := e; omega
  obtain ⟨xA, xn, xc, rfl⟩ := hx
  obtain ⟨yA, yc, rfl, hcm0⟩ := hy
  have hcame : Came (S2 sb w.heap.size) w yA m yc u := hcm0.new
  have hvr : ∀ g', lv.ownBlock = some g' → ¬ S1 w.heap.size g' := fun g' hg e => by have := (hm.vals.lt g' hg).2; have e' : g' = w.heap.size := e; omega
  have hlw := hm.obj.lt
  go_enter Try.func19, Try.ntmps19
  go_wp2_with fail
  generalize w.alloc (.cells #[.int .u16 0, .slice none 0 0, .slice none 0 0, .int .i64 0, .bool false] 39) = wa at *
  generalize hrb : w.heap.size = rb at *
  have c0 := hma.c0
  have c1 := hma.c1
  have c2 := hma.c2
  obtain ⟨Av, cv, hlv, _, _, _⟩ := hma.vals.out
  rw [hlv] at c1
  have b1 : ((q : Int) + 1 == 0) = false := beq_eq_false_iff_ne.2 (by omega)
  have TP := Lib.hid (top_any (sb := sb) g q c wa c2 hq)
  obtain ⟨g2, cap, fr, hfe, hbg, hc1, hc2, hrow, hF, hQ⟩ := hma.frs.resolve_left (fun h => by cases h.1)
  have hgg : g = g2 ∧ c = cap := by cases hfe; exact ⟨rfl, rfl⟩
  obtain ⟨rfl, rfl⟩ := hgg
  have f0 : wa.cell? ⟨g, q * 5, none⟩ = some (.int .u16 op) := by rw [← hf.f0, ← hF _ (by omega)]; exact hrow.cell (by omega)
  have f1 : wa.cell? ⟨g, q * 5 + 1, none⟩ = some (.slice xA xn xc) := by rw [← hf.f1, ← hF _ (by omega)]; exact hrow.cell (by omega)
  have f2 : wa.cell? ⟨g, q * 5 + 2, none⟩ = some (.slice yA m yc) := by rw [← hf.f2, ← hF _ (by omega)]; exact hrow.cell (by omega)
  have f3 : wa.cell? ⟨g, q * 5 + 3, none⟩ = some (.int .i64 (h : Int)) := by rw [← hf.f3, ← hF _ (by omega)]; exact hrow.cell (by omega)
  have f4 : wa.cell? ⟨g, q * 5 + 4, none⟩ = some (.bool dead) := by rw [← hf.f4, ← hF _ (by omega)]; exact hrow.cell (by omega)
  have r0 := hra.cell 0
  have r1 := hra.cell 1
  have r2 := hra.cell 2
  have r3 := hra.cell 3
  have r4 := hra.cell 4
  have z0 := hra.frozen 0
  have z1 := hra.frozen 1
  have z2 := hra.frozen 2
  have z3 := hra.frozen 3
  have z4 := hra.frozen 4
  have HMA := Lib.hid hma
  have HRA := Lib.hid hra
  have HF := Lib.hid hf
  have HKA := Lib.hid hKa
  have HC := Lib.hid hcame
  clear hm hma hra hrow hF hQ hfe hKa hcame hcm0 hf
  refine (off_made _ _ c0).mono ?_
  rintro e w1 ⟨rfl, rfl⟩
  go_wp2_with fail
  refine TP.out.mono ?_
  rintro e w1 ⟨rfl, m1, rfl⟩
  go_wp2_with fail
  have hks : Kept (S1 rb) wa ((((((wa.drewN m1).setCell ⟨rb, 0, none⟩ (.int .u16 op)).setCell ⟨rb, 1, none⟩ (.slice xA xn xc)).setCell ⟨rb, 2, none⟩ (.slice yA m yc)).setCell ⟨rb, 3, none⟩ (.int .i64 (h : Int))).setCell ⟨rb, 4, none⟩ (.bool dead)) :=
    ((((((Kept.refl (S1 rb) wa).drewN m1).setCell (p := ⟨rb, 0, none⟩) (.inl rfl) _).setCell (p := ⟨rb, 1, none⟩) (.inl rfl) _).setCell (p := ⟨rb, 2, none⟩) (.inl rfl) _).setCell (p := ⟨rb, 3, none⟩) (.inl rfl) _).setCell (p := ⟨rb, 4, none⟩) (.inl rfl) _
  have hrs : Blk ((((((wa.drewN m1).setCell ⟨rb, 0, none⟩ (.int .u16 op)).setCell ⟨rb, 1, none⟩ (.slice xA xn xc)).setCell ⟨rb, 2, none⟩ (.slice yA m yc)).setCell ⟨rb, 3, none⟩ (.int .i64 (h : Int))).setCell ⟨rb, 4, none⟩ (.bool dead)) rb 39 #[.int .u16 op, .slice xA xn xc, .slice yA m yc, .int .i64 (h : Int), .bool dead] :=
    (((((HRA.out.drewN m1).set_ 0 _).set_ 1 _).set_ 2 _).set_ 3 _).set_ 4 _
  generalize (((((wa.drewN m1).setCell ⟨rb, 0, none⟩ (.int .u16 op)).setCell ⟨rb, 1, none⟩ (.slice xA xn xc)).setCell ⟨rb, 2, none⟩ (.slice yA m yc)).setCell ⟨rb, 3, none⟩ (.int .i64 (h : Int))).setCell ⟨rb, 4, none⟩ (.bool dead) = ws at *
  have hms := HMA.out.kept hks (fun e => hsr e.symm) hvr hfr2
  have hcs : Came (S1 sb) ws yA m yc u := ((HC.out.kept (HKA.out.of0 _)).kept (hks.mono (fun i hi => .inr hi))).mono (fun i hi => .inl hi)
  have TA := Lib.hid (takeAll_ok g q c m yc h h yA u dead hms hcs hn hq HF.out.f3 HF.out.f4 hhn hp)
  have HKS := Lib.hid hks
  have HRS := Lib.hid hrs
  clear c0 c1 c2 f0 f1 f2 f3 f4 r0 r1 r2 r3 r4 z0 z1 z2 z3 z4 TP hks hrs hms hcs HRA HMA
  refine TA.out.mono ?_
  rintro e w2 ⟨rfl, _, _, lj, hm2, hk2, hlj⟩
  have hr2 := hk2.blk HRS.out (fun e => hsr e)
  have t1 := hm2.c1
  obtain ⟨A2, c2, hl2, _, _, _⟩ := hm2.vals.out
  rw [hl2] at t1
  have t2 := hm2.c2
  have y2 := hm2.obj.frozen 2
  have s0 := hr2.cell 0
  have s1 := hr2.cell 1
  have s2 := hr2.cell 2
  have s3 := hr2.cell 3
  have s4 := hr2.cell 4
  have b2 : ((h : Int) != (h : Int)) = false := by simp
  have u1 : IntKind.i64.wrap ((q : Int) + 1 - 1) = (q : Int) := by rw [IntWalk.i64_in _ (by omega)]; omega
  obtain ⟨D, rr1, d1⟩ := run_cutS_h (P := Try.prog) 43 39 5 Try.underlying43 Try.sizeFr (some ⟨g, 0, none⟩) (q + 1) c .i64 (q : Int) q rfl (by omega)
  have HM2 := Lib.hid hm2
  have HR2 := Lib.hid hr2
  have HK2 := Lib.hid hk2
  have HD := Lib.hid d1
  clear hm2 hr2 hk2 TA d1
  go_wp2_with fail
  go_quiet (fail)
  go_wp2_with fail
  have hk3 := (Kept.refl S0 w2).drewN nq
  have ho3 := hk3.blk HM2.out.obj (fun x => x)
  have hr3 := hk3.blk HR2.out (fun x => x)
  generalize w2.drewN nq = w3 at *
  have p2 : w3.cell? ⟨sb, 2, none⟩ = some (.slice (some ⟨g, 0, none⟩) (q + 1) c) := ho3.cell 2
  have x2 := ho3.frozen 2
  clear t1 t2 y2 s0 s1 s2 s3 s4
  have u2 : IntKind.i64.wrap (q : Int) = (q : Int) := IntWalk.i64_in _ (by omega)
  go_still_tail 12, (by kernel_rfl)
  change wpList _ _ _ _ _ w3.drew
  have hk4 : Kept (S1 sb) w3 (w3.setCell ⟨sb, 2, none⟩ (.slice D q c)) := (Kept.refl (S1 sb) w3).setCell (p := ⟨sb, 2, none⟩) (.inl rfl) _
  have ho4 : Blk (w3.setCell ⟨sb, 2, none⟩ (.slice D q c)) sb 58 #[.bool true, lj, .slice D q c] := ho3.set_ 2 _
  have hr4 := hk4.blk hr3 (fun e => hsr e)
  have s0 := hr4.cell 0
  have s1 := hr4.cell 1
  have s2 := hr4.cell 2
  have s3 := hr4.cell 3
  have s4 := hr4.cell 4
  have v0 := hr4.frozen 0
  have v1 := hr4.frozen 1
  have v2 := hr4.frozen 2
  have v3 := hr4.frozen 3
  have v4 := hr4.frozen 4
  have HK3 := Lib.hid hk3
  have HK4 := Lib.hid hk4
  have HO4 := Lib.hid ho4
  have HR4 := Lib.hid hr4
  clear hk3 hk4 ho3 ho4 hr3 hr4
  go_wp2_with fail
  have hk5 : Kept (S1 rb) (w3.setCell ⟨sb, 2, none⟩ (.slice D q c)) ((((((w3.setCell ⟨sb, 2, none⟩ (.slice D q c)).setCell ⟨rb, 0, none⟩ (.int .u16 op)).setCell ⟨rb, 1, none⟩ (.slice xA xn xc)).setCell ⟨rb, 2, none⟩ (.slice yA m yc)).setCell ⟨rb, 3, none⟩ (.int .i64 (h : Int))).setCell ⟨rb, 4, none⟩ (.bool dead)).drew :=
    ((((((Kept.refl (S1 rb) _).setCell (p := ⟨rb, 0, none⟩) (.inl rfl) _).setCell (p := ⟨rb, 1, none⟩) (.inl rfl) _).setCell (p := ⟨rb, 2, none⟩) (.inl rfl) _).setCell (p := ⟨rb, 3, none⟩) (.inl rfl) _).setCell (p := ⟨rb, 4, none⟩) (.inl rfl) _).drew
  have hr5 : Blk ((((((w3.setCell ⟨sb, 2, none⟩ (.slice D q c)).setCell ⟨rb, 0, none⟩ (.int .u16 op)).setCell ⟨rb, 1, none⟩ (.slice xA xn xc)).setCell ⟨rb, 2, none⟩ (.slice yA m yc)).setCell ⟨rb, 3, none⟩ (.int .i64 (h : Int))).setCell ⟨rb, 4, none⟩ (.bool dead)).drew rb 39 #[.int .u16 op, .slice xA xn xc, .slice yA m yc, .int .i64 (h : Int), .bool dead] :=
    (((((HR4.out.set_ 0 _).set_ 1 _).set_ 2 _).set_ 3 _).set_ 4 _).drew
  generalize ((((((w3.setCell ⟨sb, 2, none⟩ (.slice D q c)).setCell ⟨rb, 0, none⟩ (.int .u16 op)).setCell ⟨rb, 1, none⟩ (.slice xA xn xc)).setCell ⟨rb, 2, none⟩ (.slice yA m yc)).setCell ⟨rb, 3, none⟩ (.int .i64 (h : Int))).setCell ⟨rb, 4, none⟩ (.bool dead)).drew = wf at *
  have e0 := hr5.cell 0
  have e1 := hr5.cell 1
  have e2 := hr5.cell 2
  have e3 := hr5.cell 3
  have e4 := hr5.cell 4
  have hD : D = some ⟨g, 0, none⟩ := by
    rw [HD.out]
    split
    · rfl
    · simp [Addr.add_lit]
  have hm2 := HM2.out
  have hlr : ∀ g', lj.ownBlock = some g' → ¬ S1 rb g' := fun g' hg => hvr g' (by rw [← hlj]; exact hg)
  have hls : ∀ g', lj.ownBlock = some g' → ¬ S1 sb g' := fun g' hg e => hm2.ne_v (by rw [hg]; exact congrArg some e)
  obtain ⟨g3, c3, fr3, hfe3, hb3, _, hcm3, hrow3, hF3, hQ3⟩ := hm2.frs.resolve_left (fun h => by cases h.1)
  have hgg : g = g3 ∧ c = c3 := by cases hfe3; exact ⟨rfl, rfl⟩
  obtain ⟨rfl, rfl⟩ := hgg
  have hfin : StkAt wf sb base h v lj q F (.slice (some ⟨g, 0, none⟩) q c) := by
    refine ⟨?_, ((hm2.vals.kept HK3.out (fun _ _ x => x)).kept HK4.out hls).kept hk5 hlr, .inr ⟨g, c, fr3, rfl, hb3, by omega, hcm3, hk5.row (HK4.out.row (HK3.out.row hrow3 (fun x => x)) hgs) (fun e => hgr e.symm), fun i hi => hF3 i (by omega), hQ3⟩, hm2.lo⟩
    have := hk5.blk HO4.out (fun e => hsr e.symm)
    rw [hD] at this
    exact this
  have hkk : Kept (S1 sb) w wf := by
    refine Kept.trans_ (S' := S1 rb) ?_ hk5 (fun i hi => .inr (by have e : i = rb := hi; omega))
    refine Kept.trans ?_ HK4.out
    refine Kept.then0 ?_ HK3.out
    refine Kept.trans ?_ HK2.out
    exact Kept.trans_ (S' := S1 rb) (HKA.out.of0 _) HKS.out (fun i hi => .inr (by have e : i = rb := hi; omega))
  exact bodyPost_ret (v := .tuple #[.agg #[.int .u16 op, .slice xA xn xc, .slice yA m yc, .int .i64 (h : Int), .bool dead], .int .i64 0]) (by simp [results, Try.results19, go_sem, e0, e1, e2, e3, e4]) rfl ⟨rfl, lj, hfin, hkk, hlj⟩
end
end Go.Proofs.Ytpbaojjcbpfdaaa
