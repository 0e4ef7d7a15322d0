/- The document's checker: Close in terms of the plain model. No condition. -/
import Derived.Test.YtpbaojjcbpfdaaaStkZ
namespace Go.Proofs.Ytpbaojjcbpfdaaa
open Go.RowKit

/-- The last stores of a call: a frame's five cells. -/
theorem set5 (W : World) (b : Nat) (x0 x1 x2 x3 x4 : Value) : Kept (S1 b) W (((((W.setCell ⟨b, 0, none⟩ x0).setCell ⟨b, 1, none⟩ x1).setCell ⟨b, 2, none⟩ x2).setCell ⟨b, 3, none⟩ x3).setCell ⟨b, 4, none⟩ x4) :=
  (((((Kept.refl (S1 b) W).setCell (p := ⟨b, 0, none⟩) (.inl rfl) _).setCell (p := ⟨b, 1, none⟩) (.inl rfl) _).setCell (p := ⟨b, 2, none⟩) (.inl rfl) _).setCell (p := ⟨b, 3, none⟩) (.inl rfl) _).setCell (p := ⟨b, 4, none⟩) (.inl rfl) _

section
variable {X : Nat → Prop} {w w' : World} {s : St} {mv : Value}

set_option maxHeartbeats 6400000 in
theorem mclose_bad {V : Option Addr} {cv cf q n b o : Nat} {v : Nat → UInt8} {D : Nat → Frm} {G : Nat → Value} (hat : ModAt X w V cv (some ⟨b, o, none⟩) cf G ⟨n, v, q + 1, D⟩) (hm : ModIs X w (.agg #[.slice V n cv, .slice (some ⟨b, o, none⟩) (q + 1) cf]) ⟨n, v, q + 1, D⟩) (hw : St.Wf ⟨n, v, q + 1, D⟩) (hX : ∀ i, X i → i < w.heap.size) (hp : St.allE ⟨n, v, q + 1, D⟩ (D q).t (D q).m = 5) :
    Calls Try.prog 34 #[.agg #[.slice V n cv, .slice (some ⟨b, o, none⟩) (q + 1) cf]] w fun e w' => e = .returned (.tuple #[.agg #[.slice V n cv, .slice (some ⟨b, o, none⟩) (q + 1) cf], .agg #[.int .u16 0, .slice none 0 0, .slice none 0 0, .int .i64 0, .bool false], .int .i64 5]) ∧ Kept S0 w w' := by
  obtain ⟨b2, o2, A, ac, B, bc, he, hf, hxA, hyB, hc⟩ := hat.top rfl
  cases he
  have hc : ∀ i, i < (q + 1) * 5 → w.cell? ⟨b, o + i, none⟩ = some (G i) := hc
  have hf : FrAt G q (D q).op (.slice A (D q).n ac) (.slice B (D q).m bc) (D q).h (D q).dead := hf
  have hq : q + 1 ≤ 1000000000 := hw.k
  have hn : n ≤ 140737488351232 := hw.n
  have hk3 : Kept S0 w (((w.alloc (.cells #[.slice V n cv, .slice (some ⟨b, o, none⟩) (q + 1) cf] 45)).alloc (.cells #[.slice none 0 0, .slice none 0 0] 45)).alloc (.cells #[.int .u16 0, .slice none 0 0, .slice none 0 0, .int .i64 0, .bool false] 39)) := (((Kept.refl S0 w).alloc _).alloc _).alloc _
  have hk4 : Kept S0 w ((((w.alloc (.cells #[.slice V n cv, .slice (some ⟨b, o, none⟩) (q + 1) cf] 45)).alloc (.cells #[.slice none 0 0, .slice none 0 0] 45)).alloc (.cells #[.int .u16 0, .slice none 0 0, .slice none 0 0, .int .i64 0, .bool false] 39)).alloc (.cells #[.int .u16 (D q).op, .slice A (D q).n ac, .slice B (D q).m bc, .int .i64 ((D q).h : Int), .bool (D q).dead] 39)) := hk3.alloc _
  have hb4 : Blk ((((w.alloc (.cells #[.slice V n cv, .slice (some ⟨b, o, none⟩) (q + 1) cf] 45)).alloc (.cells #[.slice none 0 0, .slice none 0 0] 45)).alloc (.cells #[.int .u16 0, .slice none 0 0, .slice none 0 0, .int .i64 0, .bool false] 39)).alloc (.cells #[.int .u16 (D q).op, .slice A (D q).n ac, .slice B (D q).m bc, .int .i64 ((D q).h : Int), .bool (D q).dead] 39)) w.heap.size 45 #[.slice V n cv, .slice (some ⟨b, o, none⟩) (q + 1) cf] := (((Blk.new w _ _).alloc _).alloc _).alloc _
  have hr4 : Blk ((((w.alloc (.cells #[.slice V n cv, .slice (some ⟨b, o, none⟩) (q + 1) cf] 45)).alloc (.cells #[.slice none 0 0, .slice none 0 0] 45)).alloc (.cells #[.int .u16 0, .slice none 0 0, .slice none 0 0, .int .i64 0, .bool false] 39)).alloc (.cells #[.int .u16 (D q).op, .slice A (D q).n ac, .slice B (D q).m bc, .int .i64 ((D q).h : Int), .bool (D q).dead] 39)) (w.heap.size + 1) 45 #[.slice none 0 0, .slice none 0 0] := ((Blk.new1 w _ _ _).alloc _).alloc _
  have hs2 : ((w.alloc (.cells #[.slice V n cv, .slice (some ⟨b, o, none⟩) (q + 1) cf] 45)).alloc (.cells #[.slice none 0 0, .slice none 0 0] 45)).heap.size = w.heap.size + 1 + 1 := by simp
  have hs3 : (((w.alloc (.cells #[.slice V n cv, .slice (some ⟨b, o, none⟩) (q + 1) cf] 45)).alloc (.cells #[.slice none 0 0, .slice none 0 0] 45)).alloc (.cells #[.int .u16 0, .slice none 0 0, .slice none 0 0, .int .i64 0, .bool false] 39)).heap.size = w.heap.size + 1 + 1 + 1 := by simp
  have hs4 : ((((w.alloc (.cells #[.slice V n cv, .slice (some ⟨b, o, none⟩) (q + 1) cf] 45)).alloc (.cells #[.slice none 0 0, .slice none 0 0] 45)).alloc (.cells #[.int .u16 0, .slice none 0 0, .slice none 0 0, .int .i64 0, .bool false] 39)).alloc (.cells #[.int .u16 (D q).op, .slice A (D q).n ac, .slice B (D q).m bc, .int .i64 ((D q).h : Int), .bool (D q).dead] 39)).heap.size = w.heap.size + 4 := by simp
  have hz4 : Blk ((((w.alloc (.cells #[.slice V n cv, .slice (some ⟨b, o, none⟩) (q + 1) cf] 45)).alloc (.cells #[.slice none 0 0, .slice none 0 0] 45)).alloc (.cells #[.int .u16 0, .slice none 0 0, .slice none 0 0, .int .i64 0, .bool false] 39)).alloc (.cells #[.int .u16 (D q).op, .slice A (D q).n ac, .slice B (D q).m bc, .int .i64 ((D q).h : Int), .bool (D q).dead] 39)) (w.heap.size + 1 + 1) 39 #[.int .u16 0, .slice none 0 0, .slice none 0 0, .int .i64 0, .bool false] := by
    have h := (Blk.new ((w.alloc (.cells #[.slice V n cv, .slice (some ⟨b, o, none⟩) (q + 1) cf] 45)).alloc (.cells #[.slice none 0 0, .slice none 0 0] 45)) 39 #[.int .u16 0, .slice none 0 0, .slice none 0 0, .int .i64 0, .bool false]).alloc (.cells #[.int .u16 (D q).op, .slice A (D q).n ac, .slice B (D q).m bc, .int .i64 ((D q).h : Int), .bool (D q).dead] 39)
    rwa [hs2] at h
  have ht4 : Blk ((((w.alloc (.cells #[.slice V n cv, .slice (some ⟨b, o, none⟩) (q + 1) cf] 45)).alloc (.cells #[.slice none 0 0, .slice none 0 0] 45)).alloc (.cells #[.int .u16 0, .slice none 0 0, .slice none 0 0, .int .i64 0, .bool false] 39)).alloc (.cells #[.int .u16 (D q).op, .slice A (D q).n ac, .slice B (D q).m bc, .int .i64 ((D q).h : Int), .bool (D q).dead] 39)) (w.heap.size + 1 + 1 + 1) 39 #[.int .u16 (D q).op, .slice A (D q).n ac, .slice B (D q).m bc, .int .i64 ((D q).h : Int), .bool (D q).dead] := by
    have h := Blk.new (((w.alloc (.cells #[.slice V n cv, .slice (some ⟨b, o, none⟩) (q + 1) cf] 45)).alloc (.cells #[.slice none 0 0, .slice none 0 0] 45)).alloc (.cells #[.int .u16 0, .slice none 0 0, .slice none 0 0, .int .i64 0, .bool false] 39)) 39 #[.int .u16 (D q).op, .slice A (D q).n ac, .slice B (D q).m bc, .int .i64 ((D q).h : Int), .bool (D q).dead]
    rwa [hs3] at h
  have hcd : ∀ i, i < (q + 1) * 5 → (((w.alloc (.cells #[.slice V n cv, .slice (some ⟨b, o, none⟩) (q + 1) cf] 45)).alloc (.cells #[.slice none 0 0, .slice none 0 0] 45)).alloc (.cells #[.int .u16 0, .slice none 0 0, .slice none 0 0, .int .i64 0, .bool false] 39)).cell? ⟨b, o + i, none⟩ = some (G i) := fun i hi => (hk3.cell (p := ⟨b, o + i, none⟩) (World.block_lt_of_cell? _ _ (hc i hi)) (fun x => x)).trans (hc i hi)
  have f0 := hcd (q * 5) (by omega)
  have f1 := hcd (q * 5 + 1) (by omega)
  have f2 := hcd (q * 5 + 2) (by omega)
  have f3 := hcd (q * 5 + 3) (by omega)
  have f4 := hcd (q * 5 + 4) (by omega)
  rw [hf.f0] at f0
  rw [hf.f1, ← Nat.add_assoc] at f1
  rw [hf.f2, ← Nat.add_assoc] at f2
  rw [hf.f3, ← Nat.add_assoc] at f3
  rw [hf.f4, ← Nat.add_assoc] at f4
  have u1 : IntKind.i64.wrap ((q : Int) + 1 - 1) = (q : Int) := by rw [IntWalk.i64_in _ (by omega)]; omega
  have u2 : (q : Int) < (q : Int) + 1 := by omega
  have u3 : IntKind.i64.wrap (q : Int) = (q : Int) := IntWalk.i64_in _ (by omega)
  have b1 : ((q : Int) + 1 == 0) = false := beq_eq_false_iff_ne.2 (by omega)
  have hXL : ∀ i, XL X w.heap.size 4 i → i < ((((w.alloc (.cells #[.slice V n cv, .slice (some ⟨b, o, none⟩) (q + 1) cf] 45)).alloc (.cells #[.slice none 0 0, .slice none 0 0] 45)).alloc (.cells #[.int .u16 0, .slice none 0 0, .slice none 0 0, .int .i64 0, .bool false] 39)).alloc (.cells #[.int .u16 (D q).op, .slice A (D q).n ac, .slice B (D q).m bc, .int .i64 ((D q).h : Int), .bool (D q).dead] 39)).heap.size := fun i hi => by
    rw [hs4]
    rcases hi with e | e
    · have := hX i e; omega
    · omega
  have CP := Lib.hid (mtakeAll_is (s := ⟨n, v, q + 1, D⟩) B (D q).m bc (D q).t (hm.step (loc_in 4 hk4)) hw hXL ((hyB.mono (T := S0) (fun _ x => x.elim)).kept hk4))
  have HM := Lib.hid hm
  have HX := Lib.hid (And.intro hxA hyB)
  have HB4 := Lib.hid hb4
  have HR4 := Lib.hid hr4
  have HZ4 := Lib.hid hz4
  have HT4 := Lib.hid ht4
  have HK4 := Lib.hid hk4
  clear hf hcd hc hat hm hxA hyB hk3 hb4 hr4 hz4 ht4 hs2 hs3 hXL hk4
  go_enter Try.func34, Try.ntmps34
  go_wp2_with fail
  refine CP.out.mono ?_
  rintro e w5 ⟨mv2, rfl, hm5, hk5⟩
  obtain ⟨V2, cv2, Fa2, cf2, G2, hmv0, hat2⟩ := hm5.ex
  have hmv : mv2 = .agg #[.slice V2 (St.allN ⟨n, v, q + 1, D⟩ (D q).t (D q).m) cv2, .slice Fa2 (q + 1) cf2] := hmv0
  clear hmv0
  subst hmv
  rw [hp]
  have hka := (Kept.refl S0 w5).alloc (.cells #[.slice V2 (St.allN ⟨n, v, q + 1, D⟩ (D q).t (D q).m) cv2, .slice Fa2 (q + 1) cf2] 45)
  have hk6 := hk5.then0 hka
  have hb6 := hk6.blk HB4.out (fun x => x)
  have hr6 := hk6.blk HR4.out (fun x => x)
  have hz6 := hk6.blk HZ4.out (fun x => x)
  have ht6 := hk6.blk HT4.out (fun x => x)
  have d0 := hb6.cell 0
  have d1 := hb6.cell 1
  have t3 := ht6.cell 3
  have r0 := hr6.cell 0
  have r1 := hr6.cell 1
  have x0 := hr6.frozen 0
  have x1 := hr6.frozen 1
  have z0 := hz6.cell 0
  have z1 := hz6.cell 1
  have z2 := hz6.cell 2
  have z3 := hz6.cell 3
  have z4 := hz6.cell 4
  have y0 := hz6.frozen 0
  have y1 := hz6.frozen 1
  have y2 := hz6.frozen 2
  have y3 := hz6.frozen 3
  have y4 := hz6.frozen 4
  have HK6 := Lib.hid (HK4.out.then0 hk6)
  have HR6 := Lib.hid hr6
  have HZ6 := Lib.hid hz6
  clear hm5 hk5 hat2 hka hk6 hb6 hr6 hz6 ht6 CP f0 f1 f2 f3 f4
  go_wp2_with fail
  have hks := set2 (w5.alloc (.cells #[.slice V2 (St.allN ⟨n, v, q + 1, D⟩ (D q).t (D q).m) cv2, .slice Fa2 (q + 1) cf2] 45)) (w.heap.size + 1) (.slice V n cv) (.slice (some ⟨b, o, none⟩) (q + 1) cf)
  have hrs := (HR6.out.set_ 0 (.slice V n cv)).set_ 1 (.slice (some ⟨b, o, none⟩) (q + 1) cf)
  have hzs := hks.blk HZ6.out (fun e => by have e' : w.heap.size + 1 + 1 = w.heap.size + 1 := e; omega)
  have hkt := Kept.trans_ (S' := S1 (w.heap.size + 1)) HK6.out hks (fun i hi => .inr (by have e : i = w.heap.size + 1 := hi; omega))
  generalize ((w5.alloc (.cells #[.slice V2 (St.allN ⟨n, v, q + 1, D⟩ (D q).t (D q).m) cv2, .slice Fa2 (q + 1) cf2] 45)).setCell ⟨w.heap.size + 1, 0, none⟩ (.slice V n cv)).setCell ⟨w.heap.size + 1, 1, none⟩ (.slice (some ⟨b, o, none⟩) (q + 1) cf) = w8 at *
  have hkf := set5 w8 (w.heap.size + 1 + 1) (.int .u16 0) (.slice none 0 0) (.slice none 0 0) (.int .i64 0) (.bool false)
  have hzf := ((((hzs.set_ 0 (.int .u16 0)).set_ 1 (.slice none 0 0)).set_ 2 (.slice none 0 0)).set_ 3 (.int .i64 0)).set_ 4 (.bool false)
  have hrf := hkf.blk hrs (fun e => by have e' : w.heap.size + 1 = w.heap.size + 1 + 1 := e; omega)
  have hkz := Kept.trans_ (S' := S1 (w.heap.size + 1 + 1)) hkt hkf (fun i hi => .inr (by have e : i = w.heap.size + 1 + 1 := hi; omega))
  generalize ((((w8.setCell ⟨w.heap.size + 1 + 1, 0, none⟩ (.int .u16 0)).setCell ⟨w.heap.size + 1 + 1, 1, none⟩ (.slice none 0 0)).setCell ⟨w.heap.size + 1 + 1, 2, none⟩ (.slice none 0 0)).setCell ⟨w.heap.size + 1 + 1, 3, none⟩ (.int .i64 0)).setCell ⟨w.heap.size + 1 + 1, 4, none⟩ (.bool false) = w9 at *
  have g0 := hrf.cell 0
  have g1 := hrf.cell 1
  have h0 := hzf.cell 0
  have h1 := hzf.cell 1
  have h2 := hzf.cell 2
  have h3 := hzf.cell 3
  have h4 := hzf.cell 4
  exact bodyPost_ret (v := .tuple #[.agg #[.slice V n cv, .slice (some ⟨b, o, none⟩) (q + 1) cf], .agg #[.int .u16 0, .slice none 0 0, .slice none 0 0, .int .i64 0, .bool false], .int .i64 5]) (by simp [results, Try.results34, go_sem, g0, g1, h0, h1, h2, h3, h4]) rfl ⟨rfl, hkz⟩

set_option maxHeartbeats 6400000 in
theorem mclose_short {V : Option Addr} {cv cf q n b o : Nat} {v : Nat → UInt8} {D : Nat → Frm} {G : Nat → Value} (hat : ModAt X w V cv (some ⟨b, o, none⟩) cf G ⟨n, v, q + 1, D⟩) (hm : ModIs X w (.agg #[.slice V n cv, .slice (some ⟨b, o, none⟩) (q + 1) cf]) ⟨n, v, q + 1, D⟩) (hw : St.Wf ⟨n, v, q + 1, D⟩) (hX : ∀ i, X i → i < w.heap.size) (hp : St.allE ⟨n, v, q + 1, D⟩ (D q).t (D q).m = 0) (hne : St.allN ⟨n, v, q + 1, D⟩ (D q).t (D q).m ≠ (D q).h) :
    Calls Try.prog 34 #[.agg #[.slice V n cv, .slice (some ⟨b, o, none⟩) (q + 1) cf]] w fun e w' => e = .returned (.tuple #[.agg #[.slice V n cv, .slice (some ⟨b, o, none⟩) (q + 1) cf], .agg #[.int .u16 0, .slice none 0 0, .slice none 0 0, .int .i64 0, .bool false], .int .i64 5]) ∧ Kept S0 w w' := by
  obtain ⟨b2, o2, A, ac, B, bc, he, hf, hxA, hyB, hc⟩ := hat.top rfl
  cases he
  have hc : ∀ i, i < (q + 1) * 5 → w.cell? ⟨b, o + i, none⟩ = some (G i) := hc
  have hf : FrAt G q (D q).op (.slice A (D q).n ac) (.slice B (D q).m bc) (D q).h (D q).dead := hf
  have hq : q + 1 ≤ 1000000000 := hw.k
  have hn : n ≤ 140737488351232 := hw.n
  have hk3 : Kept S0 w (((w.alloc (.cells #[.slice V n cv, .slice (some ⟨b, o, none⟩) (q + 1) cf] 45)).alloc (.cells #[.slice none 0 0, .slice none 0 0] 45)).alloc (.cells #[.int .u16 0, .slice none 0 0, .slice none 0 0, .int .i64 0, .bool false] 39)) := (((Kept.refl S0 w).alloc _).alloc _).alloc _
  have hk4 : Kept S0 w ((((w.alloc (.cells #[.slice V n cv, .slice (some ⟨b, o, none⟩) (q + 1) cf] 45)).alloc (.cells #[.slice none 0 0, .slice none 0 0] 45)).alloc (.cells #[.int .u16 0, .slice none 0 0, .slice none 0 0, .int .i64 0, .bool false] 39)).alloc (.cells #[.int .u16 (D q).op, .slice A (D q).n ac, .slice B (D q).m bc, .int .i64 ((D q).h : Int), .bool (D q).dead] 39)) := hk3.alloc _
  have hb4 : Blk ((((w.alloc (.cells #[.slice V n cv, .slice (some ⟨b, o, none⟩) (q + 1) cf] 45)).alloc (.cells #[.slice none 0 0, .slice none 0 0] 45)).alloc (.cells #[.int .u16 0, .slice none 0 0, .slice none 0 0, .int .i64 0, .bool false] 39)).alloc (.cells #[.int .u16 (D q).op, .slice A (D q).n ac, .slice B (D q).m bc, .int .i64 ((D q).h : Int), .bool (D q).dead] 39)) w.heap.size 45 #[.slice V n cv, .slice (some ⟨b, o, none⟩) (q + 1) cf] := (((Blk.new w _ _).alloc _).alloc _).alloc _
  have hr4 : Blk ((((w.alloc (.cells #[.slice V n cv, .slice (some ⟨b, o, none⟩) (q + 1) cf] 45)).alloc (.cells #[.slice none 0 0, .slice none 0 0] 45)).alloc (.cells #[.int .u16 0, .slice none 0 0, .slice none 0 0, .int .i64 0, .bool false] 39)).alloc (.cells #[.int .u16 (D q).op, .slice A (D q).n ac, .slice B (D q).m bc, .int .i64 ((D q).h : Int), .bool (D q).dead] 39)) (w.heap.size + 1) 45 #[.slice none 0 0, .slice none 0 0] := ((Blk.new1 w _ _ _).alloc _).alloc _
  have hs2 : ((w.alloc (.cells #[.slice V n cv, .slice (some ⟨b, o, none⟩) (q + 1) cf] 45)).alloc (.cells #[.slice none 0 0, .slice none 0 0] 45)).heap.size = w.heap.size + 1 + 1 := by simp
  have hs3 : (((w.alloc (.cells #[.slice V n cv, .slice (some ⟨b, o, none⟩) (q + 1) cf] 45)).alloc (.cells #[.slice none 0 0, .slice none 0 0] 45)).alloc (.cells #[.int .u16 0, .slice none 0 0, .slice none 0 0, .int .i64 0, .bool false] 39)).heap.size = w.heap.size + 1 + 1 + 1 := by simp
  have hs4 : ((((w.alloc (.cells #[.slice V n cv, .slice (some ⟨b, o, none⟩) (q + 1) cf] 45)).alloc (.cells #[.slice none 0 0, .slice none 0 0] 45)).alloc (.cells #[.int .u16 0, .slice none 0 0, .slice none 0 0, .int .i64 0, .bool false] 39)).alloc (.cells #[.int .u16 (D q).op, .slice A (D q).n ac, .slice B (D q).m bc, .int .i64 ((D q).h : Int), .bool (D q).dead] 39)).heap.size = w.heap.size + 4 := by simp
  have hz4 : Blk ((((w.alloc (.cells #[.slice V n cv, .slice (some ⟨b, o, none⟩) (q + 1) cf] 45)).alloc (.cells #[.slice none 0 0, .slice none 0 0] 45)).alloc (.cells #[.int .u16 0, .slice none 0 0, .slice none 0 0, .int .i64 0, .bool false] 39)).alloc (.cells #[.int .u16 (D q).op, .slice A (D q).n ac, .slice B (D q).m bc, .int .i64 ((D q).h : Int), .bool (D q).dead] 39)) (w.heap.size + 1 + 1) 39 #[.int .u16 0, .slice none 0 0, .slice none 0 0, .int .i64 0, .bool false] := by
    have h := (Blk.new ((w.alloc (.cells #[.slice V n cv, .slice (some ⟨b, o, none⟩) (q + 1) cf] 45)).alloc (.cells #[.slice none 0 0, .slice none 0 0] 45)) 39 #[.int .u16 0, .slice none 0 0, .slice none 0 0, .int .i64 0, .bool false]).alloc (.cells #[.int .u16 (D q).op, .slice A (D q).n ac, .slice B (D q).m bc, .int .i64 ((D q).h : Int), .bool (D q).dead] 39)
    rwa [hs2] at h
  have ht4 : Blk ((((w.alloc (.cells #[.slice V n cv, .slice (some ⟨b, o, none⟩) (q + 1) cf] 45)).alloc (.cells #[.slice none 0 0, .slice none 0 0] 45)).alloc (.cells #[.int .u16 0, .slice none 0 0, .slice none 0 0, .int .i64 0, .bool false] 39)).alloc (.cells #[.int .u16 (D q).op, .slice A (D q).n ac, .slice B (D q).m bc, .int .i64 ((D q).h : Int), .bool (D q).dead] 39)) (w.heap.size + 1 + 1 + 1) 39 #[.int .u16 (D q).op, .slice A (D q).n ac, .slice B (D q).m bc, .int .i64 ((D q).h : Int), .bool (D q).dead] := by
    have h := Blk.new (((w.alloc (.cells #[.slice V n cv, .slice (some ⟨b, o, none⟩) (q + 1) cf] 45)).alloc (.cells #[.slice none 0 0, .slice none 0 0] 45)).alloc (.cells #[.int .u16 0, .slice none 0 0, .slice none 0 0, .int .i64 0, .bool false] 39)) 39 #[.int .u16 (D q).op, .slice A (D q).n ac, .slice B (D q).m bc, .int .i64 ((D q).h : Int), .bool (D q).dead]
    rwa [hs3] at h
  have hcd : ∀ i, i < (q + 1) * 5 → (((w.alloc (.cells #[.slice V n cv, .slice (some ⟨b, o, none⟩) (q + 1) cf] 45)).alloc (.cells #[.slice none 0 0, .slice none 0 0] 45)).alloc (.cells #[.int .u16 0, .slice none 0 0, .slice none 0 0, .int .i64 0, .bool false] 39)).cell? ⟨b, o + i, none⟩ = some (G i) := fun i hi => (hk3.cell (p := ⟨b, o + i, none⟩) (World.block_lt_of_cell? _ _ (hc i hi)) (fun x => x)).trans (hc i hi)
  have f0 := hcd (q * 5) (by omega)
  have f1 := hcd (q * 5 + 1) (by omega)
  have f2 := hcd (q * 5 + 2) (by omega)
  have f3 := hcd (q * 5 + 3) (by omega)
  have f4 := hcd (q * 5 + 4) (by omega)
  rw [hf.f0] at f0
  rw [hf.f1, ← Nat.add_assoc] at f1
  rw [hf.f2, ← Nat.add_assoc] at f2
  rw [hf.f3, ← Nat.add_assoc] at f3
  rw [hf.f4, ← Nat.add_assoc] at f4
  have u1 : IntKind.i64.wrap ((q : Int) + 1 - 1) = (q : Int) := by rw [IntWalk.i64_in _ (by omega)]; omega
  have u2 : (q : Int) < (q : Int) + 1 := by omega
  have u3 : IntKind.i64.wrap (q : Int) = (q : Int) := IntWalk.i64_in _ (by omega)
  have b1 : ((q : Int) + 1 == 0) = false := beq_eq_false_iff_ne.2 (by omega)
  have hXL : ∀ i, XL X w.heap.size 4 i → i < ((((w.alloc (.cells #[.slice V n cv, .slice (some ⟨b, o, none⟩) (q + 1) cf] 45)).alloc (.cells #[.slice none 0 0, .slice none 0 0] 45)).alloc (.cells #[.int .u16 0, .slice none 0 0, .slice none 0 0, .int .i64 0, .bool false] 39)).alloc (.cells #[.int .u16 (D q).op, .slice A (D q).n ac, .slice B (D q).m bc, .int .i64 ((D q).h : Int), .bool (D q).dead] 39)).heap.size := fun i hi => by
    rw [hs4]
    rcases hi with e | e
    · have := hX i e; omega
    · omega
  have CP := Lib.hid (mtakeAll_is (s := ⟨n, v, q + 1, D⟩) B (D q).m bc (D q).t (hm.step (loc_in 4 hk4)) hw hXL ((hyB.mono (T := S0) (fun _ x => x.elim)).kept hk4))
  have HM := Lib.hid hm
  have HX := Lib.hid (And.intro hxA hyB)
  have HB4 := Lib.hid hb4
  have HR4 := Lib.hid hr4
  have HZ4 := Lib.hid hz4
  have HT4 := Lib.hid ht4
  have HK4 := Lib.hid hk4
  clear hf hcd hc hat hm hxA hyB hk3 hb4 hr4 hz4 ht4 hs2 hs3 hXL hk4
  go_enter Try.func34, Try.ntmps34
  go_wp2_with fail
  refine CP.out.mono ?_
  rintro e w5 ⟨mv2, rfl, hm5, hk5⟩
  obtain ⟨V2, cv2, Fa2, cf2, G2, hmv0, hat2⟩ := hm5.ex
  have hmv : mv2 = .agg #[.slice V2 (St.allN ⟨n, v, q + 1, D⟩ (D q).t (D q).m) cv2, .slice Fa2 (q + 1) cf2] := hmv0
  clear hmv0
  subst hmv
  rw [hp]
  have bn : (((St.allN ⟨n, v, q + 1, D⟩ (D q).t (D q).m : Nat) : Int) != ((D q).h : Int)) = true := bne_iff_ne.2 (by omega)
  have hka := (Kept.refl S0 w5).alloc (.cells #[.slice V2 (St.allN ⟨n, v, q + 1, D⟩ (D q).t (D q).m) cv2, .slice Fa2 (q + 1) cf2] 45)
  have hk6 := hk5.then0 hka
  have hb6 := hk6.blk HB4.out (fun x => x)
  have hr6 := hk6.blk HR4.out (fun x => x)
  have hz6 := hk6.blk HZ4.out (fun x => x)
  have ht6 := hk6.blk HT4.out (fun x => x)
  have d0 := hb6.cell 0
  have d1 := hb6.cell 1
  have t3 := ht6.cell 3
  have r0 := hr6.cell 0
  have r1 := hr6.cell 1
  have x0 := hr6.frozen 0
  have x1 := hr6.frozen 1
  have z0 := hz6.cell 0
  have z1 := hz6.cell 1
  have z2 := hz6.cell 2
  have z3 := hz6.cell 3
  have z4 := hz6.cell 4
  have y0 := hz6.frozen 0
  have y1 := hz6.frozen 1
  have y2 := hz6.frozen 2
  have y3 := hz6.frozen 3
  have y4 := hz6.frozen 4
  have HK6 := Lib.hid (HK4.out.then0 hk6)
  have HR6 := Lib.hid hr6
  have HZ6 := Lib.hid hz6
  clear hm5 hk5 hat2 hka hk6 hb6 hr6 hz6 ht6 CP f0 f1 f2 f3 f4
  go_wp2_with fail
  have hks := set2 (w5.alloc (.cells #[.slice V2 (St.allN ⟨n, v, q + 1, D⟩ (D q).t (D q).m) cv2, .slice Fa2 (q + 1) cf2] 45)) (w.heap.size + 1) (.slice V n cv) (.slice (some ⟨b, o, none⟩) (q + 1) cf)
  have hrs := (HR6.out.set_ 0 (.slice V n cv)).set_ 1 (.slice (some ⟨b, o, none⟩) (q + 1) cf)
  have hzs := hks.blk HZ6.out (fun e => by have e' : w.heap.size + 1 + 1 = w.heap.size + 1 := e; omega)
  have hkt := Kept.trans_ (S' := S1 (w.heap.size + 1)) HK6.out hks (fun i hi => .inr (by have e : i = w.heap.size + 1 := hi; omega))
  generalize ((w5.alloc (.cells #[.slice V2 (St.allN ⟨n, v, q + 1, D⟩ (D q).t (D q).m) cv2, .slice Fa2 (q + 1) cf2] 45)).setCell ⟨w.heap.size + 1, 0, none⟩ (.slice V n cv)).setCell ⟨w.heap.size + 1, 1, none⟩ (.slice (some ⟨b, o, none⟩) (q + 1) cf) = w8 at *
  have hkf := set5 w8 (w.heap.size + 1 + 1) (.int .u16 0) (.slice none 0 0) (.slice none 0 0) (.int .i64 0) (.bool false)
  have hzf := ((((hzs.set_ 0 (.int .u16 0)).set_ 1 (.slice none 0 0)).set_ 2 (.slice none 0 0)).set_ 3 (.int .i64 0)).set_ 4 (.bool false)
  have hrf := hkf.blk hrs (fun e => by have e' : w.heap.size + 1 = w.heap.size + 1 + 1 := e; omega)
  have hkz := Kept.trans_ (S' := S1 (w.heap.size + 1 + 1)) hkt hkf (fun i hi => .inr (by have e : i = w.heap.size + 1 + 1 := hi; omega))
  generalize ((((w8.setCell ⟨w.heap.size + 1 + 1, 0, none⟩ (.int .u16 0)).setCell ⟨w.heap.size + 1 + 1, 1, none⟩ (.slice none 0 0)).setCell ⟨w.heap.size + 1 + 1, 2, none⟩ (.slice none 0 0)).setCell ⟨w.heap.size + 1 + 1, 3, none⟩ (.int .i64 0)).setCell ⟨w.heap.size + 1 + 1, 4, none⟩ (.bool false) = w9 at *
  have g0 := hrf.cell 0
  have g1 := hrf.cell 1
  have h0 := hzf.cell 0
  have h1 := hzf.cell 1
  have h2 := hzf.cell 2
  have h3 := hzf.cell 3
  have h4 := hzf.cell 4
  exact bodyPost_ret (v := .tuple #[.agg #[.slice V n cv, .slice (some ⟨b, o, none⟩) (q + 1) cf], .agg #[.int .u16 0, .slice none 0 0, .slice none 0 0, .int .i64 0, .bool false], .int .i64 5]) (by simp [results, Try.results34, go_sem, g0, g1, h0, h1, h2, h3, h4]) rfl ⟨rfl, hkz⟩

set_option maxHeartbeats 6400000 in
theorem mclose_ok {V : Option Addr} {cv cf q n b o : Nat} {v : Nat → UInt8} {D : Nat → Frm} {G : Nat → Value} (hat : ModAt X w V cv (some ⟨b, o, none⟩) cf G ⟨n, v, q + 1, D⟩) (hm : ModIs X w (.agg #[.slice V n cv, .slice (some ⟨b, o, none⟩) (q + 1) cf]) ⟨n, v, q + 1, D⟩) (hw : St.Wf ⟨n, v, q + 1, D⟩) (hX : ∀ i, X i → i < w.heap.size) (hp : St.allE ⟨n, v, q + 1, D⟩ (D q).t (D q).m = 0) (heq : St.allN ⟨n, v, q + 1, D⟩ (D q).t (D q).m = (D q).h) :
    Calls Try.prog 34 #[.agg #[.slice V n cv, .slice (some ⟨b, o, none⟩) (q + 1) cf]] w fun e w' => ∃ mv' x, e = .returned (.tuple #[mv', x, .int .i64 0]) ∧ FrIs w' x (D q) ∧ ModIs X w' mv' ⟨(D q).h, v, q, D⟩ ∧ Kept S0 w w' := by
  obtain ⟨b2, o2, A, ac, B, bc, he, hf, hxA, hyB, hc⟩ := hat.top rfl
  cases he
  have hc : ∀ i, i < (q + 1) * 5 → w.cell? ⟨b, o + i, none⟩ = some (G i) := hc
  have hf : FrAt G q (D q).op (.slice A (D q).n ac) (.slice B (D q).m bc) (D q).h (D q).dead := hf
  have hq : q + 1 ≤ 1000000000 := hw.k
  have hn : n ≤ 140737488351232 := hw.n
  have hk3 : Kept S0 w (((w.alloc (.cells #[.slice V n cv, .slice (some ⟨b, o, none⟩) (q + 1) cf] 45)).alloc (.cells #[.slice none 0 0, .slice none 0 0] 45)).alloc (.cells #[.int .u16 0, .slice none 0 0, .slice none 0 0, .int .i64 0, .bool false] 39)) := (((Kept.refl S0 w).alloc _).alloc _).alloc _
  have hk4 : Kept S0 w ((((w.alloc (.cells #[.slice V n cv, .slice (some ⟨b, o, none⟩) (q + 1) cf] 45)).alloc (.cells #[.slice none 0 0, .slice none 0 0] 45)).alloc (.cells #[.int .u16 0, .slice none 0 0, .slice none 0 0, .int .i64 0, .bool false] 39)).alloc (.cells #[.int .u16 (D q).op, .slice A (D q).n ac, .slice B (D q).m bc, .int .i64 ((D q).h : Int), .bool (D q).dead] 39)) := hk3.alloc _
  have hb4 : Blk ((((w.alloc (.cells #[.slice V n cv, .slice (some ⟨b, o, none⟩) (q + 1) cf] 45)).alloc (.cells #[.slice none 0 0, .slice none 0 0] 45)).alloc (.cells #[.int .u16 0, .slice none 0 0, .slice none 0 0, .int .i64 0, .bool false] 39)).alloc (.cells #[.int .u16 (D q).op, .slice A (D q).n ac, .slice B (D q).m bc, .int .i64 ((D q).h : Int), .bool (D q).dead] 39)) w.heap.size 45 #[.slice V n cv, .slice (some ⟨b, o, none⟩) (q + 1) cf] := (((Blk.new w _ _).alloc _).alloc _).alloc _
  have hr4 : Blk ((((w.alloc (.cells #[.slice V n cv, .slice (some ⟨b, o, none⟩) (q + 1) cf] 45)).alloc (.cells #[.slice none 0 0, .slice none 0 0] 45)).alloc (.cells #[.int .u16 0, .slice none 0 0, .slice none 0 0, .int .i64 0, .bool false] 39)).alloc (.cells #[.int .u16 (D q).op, .slice A (D q).n ac, .slice B (D q).m bc, .int .i64 ((D q).h : Int), .bool (D q).dead] 39)) (w.heap.size + 1) 45 #[.slice none 0 0, .slice none 0 0] := ((Blk.new1 w _ _ _).alloc _).alloc _
  have hs2 : ((w.alloc (.cells #[.slice V n cv, .slice (some ⟨b, o, none⟩) (q + 1) cf] 45)).alloc (.cells #[.slice none 0 0, .slice none 0 0] 45)).heap.size = w.heap.size + 1 + 1 := by simp
  have hs3 : (((w.alloc (.cells #[.slice V n cv, .slice (some ⟨b, o, none⟩) (q + 1) cf] 45)).alloc (.cells #[.slice none 0 0, .slice none 0 0] 45)).alloc (.cells #[.int .u16 0, .slice none 0 0, .slice none 0 0, .int .i64 0, .bool false] 39)).heap.size = w.heap.size + 1 + 1 + 1 := by simp
  have hs4 : ((((w.alloc (.cells #[.slice V n cv, .slice (some ⟨b, o, none⟩) (q + 1) cf] 45)).alloc (.cells #[.slice none 0 0, .slice none 0 0] 45)).alloc (.cells #[.int .u16 0, .slice none 0 0, .slice none 0 0, .int .i64 0, .bool false] 39)).alloc (.cells #[.int .u16 (D q).op, .slice A (D q).n ac, .slice B (D q).m bc, .int .i64 ((D q).h : Int), .bool (D q).dead] 39)).heap.size = w.heap.size + 4 := by simp
  have hz4 : Blk ((((w.alloc (.cells #[.slice V n cv, .slice (some ⟨b, o, none⟩) (q + 1) cf] 45)).alloc (.cells #[.slice none 0 0, .slice none 0 0] 45)).alloc (.cells #[.int .u16 0, .slice none 0 0, .slice none 0 0, .int .i64 0, .bool false] 39)).alloc (.cells #[.int .u16 (D q).op, .slice A (D q).n ac, .slice B (D q).m bc, .int .i64 ((D q).h : Int), .bool (D q).dead] 39)) (w.heap.size + 1 + 1) 39 #[.int .u16 0, .slice none 0 0, .slice none 0 0, .int .i64 0, .bool false] := by
    have h := (Blk.new ((w.alloc (.cells #[.slice V n cv, .slice (some ⟨b, o, none⟩) (q + 1) cf] 45)).alloc (.cells #[.slice none 0 0, .slice none 0 0] 45)) 39 #[.int .u16 0, .slice none 0 0, .slice none 0 0, .int .i64 0, .bool false]).alloc (.cells #[.int .u16 (D q).op, .slice A (D q).n ac, .slice B (D q).m bc, .int .i64 ((D q).h : Int), .bool (D q).dead] 39)
    rwa [hs2] at h
  have ht4 : Blk ((((w.alloc (.cells #[.slice V n cv, .slice (some ⟨b, o, none⟩) (q + 1) cf] 45)).alloc (.cells #[.slice none 0 0, .slice none 0 0] 45)).alloc (.cells #[.int .u16 0, .slice none 0 0, .slice none 0 0, .int .i64 0, .bool false] 39)).alloc (.cells #[.int .u16 (D q).op, .slice A (D q).n ac, .slice B (D q).m bc, .int .i64 ((D q).h : Int), .bool (D q).dead] 39)) (w.heap.size + 1 + 1 + 1) 39 #[.int .u16 (D q).op, .slice A (D q).n ac, .slice B (D q).m bc, .int .i64 ((D q).h : Int), .bool (D q).dead] := by
    have h := Blk.new (((w.alloc (.cells #[.slice V n cv, .slice (some ⟨b, o, none⟩) (q + 1) cf] 45)).alloc (.cells #[.slice none 0 0, .slice none 0 0] 45)).alloc (.cells #[.int .u16 0, .slice none 0 0, .slice none 0 0, .int .i64 0, .bool false] 39)) 39 #[.int .u16 (D q).op, .slice A (D q).n ac, .slice B (D q).m bc, .int .i64 ((D q).h : Int), .bool (D q).dead]
    rwa [hs3] at h
  have hcd : ∀ i, i < (q + 1) * 5 → (((w.alloc (.cells #[.slice V n cv, .slice (some ⟨b, o, none⟩) (q + 1) cf] 45)).alloc (.cells #[.slice none 0 0, .slice none 0 0] 45)).alloc (.cells #[.int .u16 0, .slice none 0 0, .slice none 0 0, .int .i64 0, .bool false] 39)).cell? ⟨b, o + i, none⟩ = some (G i) := fun i hi => (hk3.cell (p := ⟨b, o + i, none⟩) (World.block_lt_of_cell? _ _ (hc i hi)) (fun x => x)).trans (hc i hi)
  have f0 := hcd (q * 5) (by omega)
  have f1 := hcd (q * 5 + 1) (by omega)
  have f2 := hcd (q * 5 + 2) (by omega)
  have f3 := hcd (q * 5 + 3) (by omega)
  have f4 := hcd (q * 5 + 4) (by omega)
  rw [hf.f0] at f0
  rw [hf.f1, ← Nat.add_assoc] at f1
  rw [hf.f2, ← Nat.add_assoc] at f2
  rw [hf.f3, ← Nat.add_assoc] at f3
  rw [hf.f4, ← Nat.add_assoc] at f4
  have u1 : IntKind.i64.wrap ((q : Int) + 1 - 1) = (q : Int) := by rw [IntWalk.i64_in _ (by omega)]; omega
  have u2 : (q : Int) < (q : Int) + 1 := by omega
  have u3 : IntKind.i64.wrap (q : Int) = (q : Int) := IntWalk.i64_in _ (by omega)
  have b1 : ((q : Int) + 1 == 0) = false := beq_eq_false_iff_ne.2 (by omega)
  have hXL : ∀ i, XL X w.heap.size 4 i → i < ((((w.alloc (.cells #[.slice V n cv, .slice (some ⟨b, o, none⟩) (q + 1) cf] 45)).alloc (.cells #[.slice none 0 0, .slice none 0 0] 45)).alloc (.cells #[.int .u16 0, .slice none 0 0, .slice none 0 0, .int .i64 0, .bool false] 39)).alloc (.cells #[.int .u16 (D q).op, .slice A (D q).n ac, .slice B (D q).m bc, .int .i64 ((D q).h : Int), .bool (D q).dead] 39)).heap.size := fun i hi => by
    rw [hs4]
    rcases hi with e | e
    · have := hX i e; omega
    · omega
  have CP := Lib.hid (mtakeAll_is (s := ⟨n, v, q + 1, D⟩) B (D q).m bc (D q).t (hm.step (loc_in 4 hk4)) hw hXL ((hyB.mono (T := S0) (fun _ x => x.elim)).kept hk4))
  have HM := Lib.hid hm
  have HX := Lib.hid (And.intro hxA hyB)
  have HB4 := Lib.hid hb4
  have HR4 := Lib.hid hr4
  have HZ4 := Lib.hid hz4
  have HT4 := Lib.hid ht4
  have HK4 := Lib.hid hk4
  clear hf hcd hc hat hm hxA hyB hk3 hb4 hr4 hz4 ht4 hs2 hs3 hXL hk4
  go_enter Try.func34, Try.ntmps34
  go_wp2_with fail
  refine CP.out.mono ?_
  rintro e w5 ⟨mv2, rfl, hm5, hk5⟩
  obtain ⟨V2, cv2, Fa2, cf2, G2, hmv0, hat2⟩ := hm5.ex
  have hmv : mv2 = .agg #[.slice V2 (D q).h cv2, .slice Fa2 (q + 1) cf2] := by rw [hmv0]; show Value.agg #[.slice V2 (St.allN ⟨n, v, q + 1, D⟩ (D q).t (D q).m) cv2, .slice Fa2 (q + 1) cf2] = _; rw [heq]
  clear hmv0
  subst hmv
  rw [hp]
  have hat3 : ModAt (XL X w.heap.size 4) w5 V2 cv2 Fa2 cf2 G2 ⟨(D q).h, v, q + 1, D⟩ := by rw [← heq]; exact hat2
  have hka := (Kept.refl S0 w5).alloc (.cells #[.slice V2 (D q).h cv2, .slice Fa2 (q + 1) cf2] 45)
  have hk6 := hk5.then0 hka
  have hr6 := hk6.blk HR4.out (fun x => x)
  have hz6 := hk6.blk HZ4.out (fun x => x)
  have ht6 := hk6.blk HT4.out (fun x => x)
  have ho6 := Blk.new w5 45 #[.slice V2 (D q).h cv2, .slice Fa2 (q + 1) cf2]
  have t3 := ht6.cell 3
  have bn : (((D q).h : Int) != ((D q).h : Int)) = false := by simp
  have cp0 := (hat3.kept0 hka).copied hq
  have CP2 := Lib.hid (show Calls Try.prog 38 #[.agg #[.slice V2 (D q).h cv2, .slice Fa2 (q + 1) cf2]] _ fun e w' => ∃ x y, e = .returned (.agg #[x, y]) ∧ Own w' _ 30 1 IsByte x (D q).h (byteV v) ∧ Own w' _ 39 5 AnyV y (q + 1) G2 ∧ Kept S0 _ w' from cp0)
  have hs5 := hk5.size
  rw [hs4] at hs5
  have HFR2 := Lib.hid (hat3.fr)
  have HK56 := Lib.hid hk6
  have HKA := Lib.hid hka
  have HR6 := Lib.hid hr6
  have HZ6 := Lib.hid hz6
  have HT6 := Lib.hid ht6
  have HO6 := Lib.hid ho6
  clear hm5 hat2 hat3 hka hk6 hr6 hz6 ht6 ho6 CP cp0 f0 f1 f2 f3 f4 hk5
  go_wp2_with fail
  refine CP2.out.mono ?_
  rintro e w7 ⟨x, y, rfl, hx, hy, hk7⟩
  obtain ⟨xA, xc, rfl, _, _, _⟩ := hx.out
  obtain ⟨yA, yc, rfl, _, _, _⟩ := hy.out
  generalize hob : w5.heap.size = ob at *
  have ho7 := hk7.blk HO6.out (fun x => x)
  have hr7 := hk7.blk HR6.out (fun x => x)
  have hz7 := hk7.blk HZ6.out (fun x => x)
  have ht7 := hk7.blk HT6.out (fun x => x)
  have d0 := ho7.cell 0
  have d1 := ho7.cell 1
  have z0 := ho7.frozen 0
  have z1 := ho7.frozen 1
  obtain ⟨E, rr1, d3⟩ := run_cutS_h (P := Try.prog) 43 39 5 Try.underlying43 Try.sizeFr yA (q + 1) yc .i64 (q : Int) q rfl (by omega)
  have HD3 := Lib.hid d3
  have hob7 : ob < w7.heap.size := ho7.lt
  clear d3
  go_wp2_with fail
  have hk8 : Kept (S1 ob) w7 (((w7.setCell ⟨ob, 0, none⟩ (.slice xA (D q).h xc)).setCell ⟨ob, 1, none⟩ (.slice yA (q + 1) yc)).setCell ⟨ob, 1, none⟩ (.slice E q yc)) := (set2 w7 ob (.slice xA (D q).h xc) (.slice yA (q + 1) yc)).setCell (p := ⟨ob, 1, none⟩) (.inl rfl) _
  have ho8 : Blk (((w7.setCell ⟨ob, 0, none⟩ (.slice xA (D q).h xc)).setCell ⟨ob, 1, none⟩ (.slice yA (q + 1) yc)).setCell ⟨ob, 1, none⟩ (.slice E q yc)) ob 45 #[.slice xA (D q).h xc, .slice E q yc] := ((ho7.set_ 0 _).set_ 1 _).set_ 1 _
  have hx8 := hx.kept hk8 (fun g hg e => hx.ne_blk ho7 (by decide) (by rw [hg]; exact congrArg some e))
  have hy8 := hy.kept hk8 (fun g hg e => hy.ne_blk ho7 (by decide) (by rw [hg]; exact congrArg some e))
  have hdd := (Kept.refl S0 (((w7.setCell ⟨ob, 0, none⟩ (.slice xA (D q).h xc)).setCell ⟨ob, 1, none⟩ (.slice yA (q + 1) yc)).setCell ⟨ob, 1, none⟩ (.slice E q yc))).drew
  have hr8 := hk8.blk hr7 (fun e => by have e' : w.heap.size + 1 = ob := e; omega)
  have hz8 := hk8.blk hz7 (fun e => by have e' : w.heap.size + 1 + 1 = ob := e; omega)
  have ht8 := hk8.blk ht7 (fun e => by have e' : w.heap.size + 1 + 1 + 1 = ob := e; omega)
  have hkW8 : Kept S0 w (((w7.setCell ⟨ob, 0, none⟩ (.slice xA (D q).h xc)).setCell ⟨ob, 1, none⟩ (.slice yA (q + 1) yc)).setCell ⟨ob, 1, none⟩ (.slice E q yc)) := Kept.trans_ (S' := S1 ob) ((HK4.out.then0 HK56.out).then0 hk7) hk8 (fun i hi => .inr (by have e : i = ob := hi; omega))
  refine wp_region_S (fun w' => w'.cell? ⟨ob, 0, none⟩ = some (.slice xA (D q).h xc) ∧ w'.cell? ⟨ob, 1, none⟩ = some (.slice E q yc) ∧ w'.cell? ⟨w.heap.size + 1 + 1 + 1, 0, none⟩ = some (.int .u16 (D q).op) ∧ w'.cell? ⟨w.heap.size + 1 + 1 + 1, 1, none⟩ = some (.slice A (D q).n ac) ∧ w'.cell? ⟨w.heap.size + 1 + 1 + 1, 2, none⟩ = some (.slice B (D q).m bc) ∧ w'.cell? ⟨w.heap.size + 1 + 1 + 1, 3, none⟩ = some (.int .i64 ((D q).h : Int)) ∧ w'.cell? ⟨w.heap.size + 1 + 1 + 1, 4, none⟩ = some (.bool (D q).dead)) [] (by kernel_rfl) ?_
  have HX8 := Lib.hid (hx8.kept hdd (fun _ _ x => x))
  have HY8 := Lib.hid (hy8.kept hdd (fun _ _ x => x))
  have hrD := hdd.blk hr8 (fun x => x)
  have hzD := hdd.blk hz8 (fun x => x)
  have htD := hdd.blk ht8 (fun x => x)
  have hoD := hdd.blk ho8 (fun x => x)
  have hkD := hkW8.then0 hdd
  have hkX9 := (Kept.trans_ (S' := S1 ob) ((HKA.out.then0 hk7).of0 (XL X w.heap.size 4)) hk8 (fun i hi => .inr (by have e : i = ob := hi; omega))).then0 hdd
  have hs6 : (w5.alloc (.cells #[.slice V2 (D q).h cv2, .slice Fa2 (q + 1) cf2] 45)).heap.size = ob + 1 := by rw [← hob]; simp
  generalize World.drew (((w7.setCell ⟨ob, 0, none⟩ (.slice xA (D q).h xc)).setCell ⟨ob, 1, none⟩ (.slice yA (q + 1) yc)).setCell ⟨ob, 1, none⟩ (.slice E q yc)) = w9 at *
  clear hdd hr8 hz8 ht8 ho8 hkW8 hk8 hx8 hy8 ho7 hr7 hz7 ht7 d0 d1 z0 z1 rr1
  have hS := And.intro (hoD.cell 0) (And.intro (hoD.cell 1) (And.intro (htD.cell 0) (And.intro (htD.cell 1) (And.intro (htD.cell 2) (And.intro (htD.cell 3) (htD.cell 4))))))
  refine wpAnyS_take 0 (v := ?_) rfl (by kernel_rfl) (by kernel_rfl) (by kernel_rfl) (by kernel_rfl) (fun _ _ _ h => h) hS ⟨by rfl, ?_⟩ ?_
  rotate_left; (intro w hSw; (try dsimp only at hSw); first | (go_simp; done) | (go_simp; with_reducible rfl))
  simp only [List.getElem_toArray, List.getElem_cons_zero, Act.put, List.setIfInBounds_toArray, List.set_cons_zero, List.set_cons_succ]
  refine wpAnyS_take 1 (v := ?_) rfl (by kernel_rfl) (by kernel_rfl) (by kernel_rfl) (by kernel_rfl) (fun _ _ _ h => h) hS ⟨by rfl, ?_⟩ ?_
  rotate_left; (intro w hSw; (try dsimp only at hSw); first | (go_simp; done) | (go_simp; with_reducible rfl))
  simp only [List.getElem_toArray, List.getElem_cons_zero, List.getElem_cons_succ, Act.put, List.setIfInBounds_toArray, List.set_cons_zero, List.set_cons_succ]
  refine wpAnyS_one 2 rfl (by kernel_rfl) (fun K hK2 => ?_)
  have x0 := hrD.cell 0
  have x1 := hrD.cell 1
  have y0 := hrD.frozen 0
  have y1 := hrD.frozen 1
  go_simp
  have hka := set2 w9 (w.heap.size + 1) (.slice xA (D q).h xc) (.slice E q yc)
  have hra := (hrD.set_ 0 (.slice xA (D q).h xc)).set_ 1 (.slice E q yc)
  have hza := hka.blk hzD (fun e => by have e' : w.heap.size + 1 + 1 = w.heap.size + 1 := e; omega)
  have hta := hka.blk htD (fun e => by have e' : w.heap.size + 1 + 1 + 1 = w.heap.size + 1 := e; omega)
  have hoa := hka.blk hoD (fun e => by have e' : ob = w.heap.size + 1 := e; omega)
  refine hK2.out _ _ (fun _ => And.intro (hoa.cell 0) (And.intro (hoa.cell 1) (And.intro (hta.cell 0) (And.intro (hta.cell 1) (And.intro (hta.cell 2) (And.intro (hta.cell 3) (hta.cell 4))))))) ?_
  clear hK2 K
  have hkXA := hkX9.trans (hka.mono (fun i hi => .inr (by have e : i = w.heap.size + 1 := hi; omega)))
  have hkA := Kept.trans_ (S' := S1 (w.heap.size + 1)) hkD hka (fun i hi => .inr (by have e : i = w.heap.size + 1 := hi; omega))
  have hxa := HX8.out.kept hka (fun g hg e => HX8.out.ne_blk hrD (by decide) (by rw [hg]; exact congrArg some e))
  have hya := HY8.out.kept hka (fun g hg e => HY8.out.ne_blk hrD (by decide) (by rw [hg]; exact congrArg some e))
  generalize (w9.setCell ⟨w.heap.size + 1, 0, none⟩ (.slice xA (D q).h xc)).setCell ⟨w.heap.size + 1, 1, none⟩ (.slice E q yc) = w10 at *
  refine wpAnyS_one 3 rfl (by kernel_rfl) (fun K hK3 => ?_)
  have c0 := hza.cell 0
  have c1 := hza.cell 1
  have c2 := hza.cell 2
  have c3 := hza.cell 3
  have c4 := hza.cell 4
  have v0 := hza.frozen 0
  have v1 := hza.frozen 1
  have v2 := hza.frozen 2
  have v3 := hza.frozen 3
  have v4 := hza.frozen 4
  go_simp
  have hkb := set5 w10 (w.heap.size + 1 + 1) (.int .u16 (D q).op) (.slice A (D q).n ac) (.slice B (D q).m bc) (.int .i64 ((D q).h : Int)) (.bool (D q).dead)
  have hzb := ((((hza.set_ 0 (.int .u16 (D q).op)).set_ 1 (.slice A (D q).n ac)).set_ 2 (.slice B (D q).m bc)).set_ 3 (.int .i64 ((D q).h : Int))).set_ 4 (.bool (D q).dead)
  have hrb := hkb.blk hra (fun e => by have e' : w.heap.size + 1 = w.heap.size + 1 + 1 := e; omega)
  have htb := hkb.blk hta (fun e => by have e' : w.heap.size + 1 + 1 + 1 = w.heap.size + 1 + 1 := e; omega)
  have hobb := hkb.blk hoa (fun e => by have e' : ob = w.heap.size + 1 + 1 := e; omega)
  have hSb := And.intro (hobb.cell 0) (And.intro (hobb.cell 1) (And.intro (htb.cell 0) (And.intro (htb.cell 1) (And.intro (htb.cell 2) (And.intro (htb.cell 3) (htb.cell 4))))))
  refine hK3.out _ _ (fun _ => hSb) ?_
  clear hK3 K
  have hkXB := hkXA.trans (hkb.mono (fun i hi => .inr (by have e : i = w.heap.size + 1 + 1 := hi; omega)))
  have hkB := Kept.trans_ (S' := S1 (w.heap.size + 1 + 1)) hkA hkb (fun i hi => .inr (by have e : i = w.heap.size + 1 + 1 := hi; omega))
  have hxb := hxa.kept hkb (fun g hg e => hxa.ne_blk hza (by decide) (by rw [hg]; exact congrArg some e))
  have hzne : ∀ g, (Value.slice yA (q + 1) yc).ownBlock = some g → ¬ S1 (w.heap.size + 1 + 1) g := fun g hg e => by have := (hya.lt g hg).1; have e' : g = w.heap.size + 1 + 1 := e; omega
  have hyb := hya.kept hkb hzne
  generalize ((((w10.setCell ⟨w.heap.size + 1 + 1, 0, none⟩ (.int .u16 (D q).op)).setCell ⟨w.heap.size + 1 + 1, 1, none⟩ (.slice A (D q).n ac)).setCell ⟨w.heap.size + 1 + 1, 2, none⟩ (.slice B (D q).m bc)).setCell ⟨w.heap.size + 1 + 1, 3, none⟩ (.int .i64 ((D q).h : Int))).setCell ⟨w.heap.size + 1 + 1, 4, none⟩ (.bool (D q).dead) = w11 at *
  refine wpAnyS_take 4 (v := ?_) rfl (by kernel_rfl) (by kernel_rfl) (by kernel_rfl) (by kernel_rfl) (fun _ _ _ h => h) hSb ⟨by rfl, ?_⟩ ?_
  rotate_left; (intro w hSw; (try dsimp only at hSw); first | (go_simp; done) | (go_simp; with_reducible rfl))
  simp only [List.getElem_toArray, List.getElem_cons_zero, List.getElem_cons_succ, Act.put, List.setIfInBounds_toArray, List.set_cons_zero, List.set_cons_succ]
  refine wpAnyS_done (by kernel_rfl) ?_ _
  have g0 := hrb.cell 0
  have g1 := hrb.cell 1
  have h0 := hzb.cell 0
  have h1 := hzb.cell 1
  have h2 := hzb.cell 2
  have h3 := hzb.cell 3
  have h4 := hzb.cell 4
  have hle6 : w.heap.size ≤ (w5.alloc (.cells #[.slice V2 (D q).h cv2, .slice Fa2 (q + 1) cf2] 45)).heap.size := by simp; omega
  have hyq : Own w11 w.heap.size 39 5 AnyV (.slice E q yc) q G2 := by
    rcases hyb with ⟨e, e0⟩ | ⟨gy, cap, fr, e, k2, k3, k4, k5, k6, k7⟩
    · omega
    · cases e
      have hE : E = some ⟨gy, 0, none⟩ := by
        rw [HD3.out]
        split
        · rfl
        · simp [Addr.add_lit]
      subst hE
      exact .inr ⟨gy, yc, fr, rfl, by omega, by omega, k4, k5, fun i hi => k6 i (by omega), k7⟩
  have hmod : ModIs X w11 (.agg #[.slice xA (D q).h xc, .slice E q yc]) ⟨(D q).h, v, q, D⟩ := modIs_own (s := ⟨(D q).h, v, q, D⟩) (hxb.mono hle6) hyq hX (show (D q).h ≤ 140737488351232 from Nat.le_trans (hw.le q (Nat.lt_succ_self q)) hn) ?hfr
  case hfr => exact fun r hr => HFR2.out.step (X' := X) ⟨hkXB, fun i hi => .inl (.inl hi)⟩ r (Nat.lt_succ_of_lt (show r < q from hr))
  have hfi : FrIs w11 (.agg #[.int .u16 (D q).op, .slice A (D q).n ac, .slice B (D q).m bc, .int .i64 ((D q).h : Int), .bool (D q).dead]) (D q) := ⟨A, ac, B, bc, rfl, (HX.out.1.mono (T := S0) (fun _ x => x.elim)).kept hkB, (HX.out.2.mono (T := S0) (fun _ x => x.elim)).kept hkB⟩
  have HF := Lib.hid (And.intro hmod (And.intro hfi hkB))
  clear hmod hfi hkB hkA hkD hkX9 hkXA hkXB hkb hka hxa hya hxb hyb hyq
  go_wp2_with fail
  exact bodyPost_ret (v := .tuple #[.agg #[.slice xA (D q).h xc, .slice E q yc], .agg #[.int .u16 (D q).op, .slice A (D q).n ac, .slice B (D q).m bc, .int .i64 ((D q).h : Int), .bool (D q).dead], .int .i64 0]) (by simp [results, Try.results34, go_sem, g0, g1, h0, h1, h2, h3, h4]) rfl ⟨_, _, rfl, HF.out.2.1, HF.out.1, HF.out.2.2⟩


theorem mclose_is (h : ModIs X w mv s) (hw : s.Wf) (hX : ∀ i, X i → i < w.heap.size) : Calls Try.prog 34 #[mv] w fun e w' =>
    ∃ mv' x, e = .returned (.tuple #[mv', x, .int .i64 s.closeE]) ∧ FrIs w' x s.closeF ∧ ModIs X w' mv' s.close ∧ Kept S0 w w' := by
  rcases s with ⟨n, v, k, D⟩
  obtain ⟨V, cv, Fa, cf, G, hmv, hat⟩ := h.ex
  have hmv : mv = .agg #[.slice V n cv, .slice Fa k cf] := hmv
  subst hmv
  have ref : ∀ {w' : World} {e : Ending}, St.closeE ⟨n, v, k, D⟩ = 5 → e = .returned (.tuple #[.agg #[.slice V n cv, .slice Fa k cf], .agg #[.int .u16 0, .slice none 0 0, .slice none 0 0, .int .i64 0, .bool false], .int .i64 5]) → Kept S0 w w' → ∃ mv' x, e = .returned (.tuple #[mv', x, .int .i64 (St.closeE ⟨n, v, k, D⟩)]) ∧ FrIs w' x (St.closeF ⟨n, v, k, D⟩) ∧ ModIs X w' mv' (St.close ⟨n, v, k, D⟩) ∧ Kept S0 w w' := fun {w' e} hE he hk => by
    have e1 : St.closeF ⟨n, v, k, D⟩ = frm0 := by unfold St.closeF; rw [hE, if_neg (by decide)]
    have e2 : St.close ⟨n, v, k, D⟩ = ⟨n, v, k, D⟩ := by unfold St.close; rw [hE, if_neg (by decide)]
    rw [hE, e1, e2]
    exact ⟨_, _, he, frIs_zero w', h.kept0 hk, hk⟩
  rcases Nat.eq_zero_or_pos k with rfl | hk0
  · exact mclose_0.mono fun e w' ⟨he, hk⟩ => ref rfl he hk
  · obtain ⟨q, rfl⟩ : ∃ q, k = q + 1 := ⟨k - 1, by omega⟩
    obtain ⟨b, o, _, _, _, _, rfl, _, _, _, _⟩ := hat.top rfl
    have hcE : St.closeE ⟨n, v, q + 1, D⟩ = if St.pop ⟨n, v, q + 1, D⟩ (D q).t (D q).m = some (D q).h then 0 else 5 := rfl
    cases hp : St.pop ⟨n, v, q + 1, D⟩ (D q).t (D q).m with
    | none =>
      have e1 : St.allE ⟨n, v, q + 1, D⟩ (D q).t (D q).m = 5 := by unfold St.allE; rw [hp]; rfl
      exact (mclose_bad hat h hw hX e1).mono fun e w' ⟨he, hk⟩ => ref (by rw [hcE, hp, if_neg (by intro e; cases e)]) he hk
    | some r =>
      have e1 : St.allE ⟨n, v, q + 1, D⟩ (D q).t (D q).m = 0 := by unfold St.allE; rw [hp]; rfl
      have e2 : St.allN ⟨n, v, q + 1, D⟩ (D q).t (D q).m = r := by unfold St.allN; rw [hp]; rfl
      by_cases hr : r = (D q).h
      · have hE : St.closeE ⟨n, v, q + 1, D⟩ = 0 := by rw [hcE, hp, hr, if_pos rfl]
        have e3 : St.closeF ⟨n, v, q + 1, D⟩ = D q := by unfold St.closeF; rw [hE, if_pos rfl]; rfl
        have e4 : St.close ⟨n, v, q + 1, D⟩ = ⟨(D q).h, v, q, D⟩ := by unfold St.close; rw [hE, if_pos rfl]; rfl
        rw [hE, e3, e4]
        exact mclose_ok hat h hw hX e1 (by rw [e2, hr])
      · exact (mclose_short hat h hw hX e1 (by rw [e2]; exact hr)).mono fun e w' ⟨he, hk⟩ => ref (by rw [hcE, hp, if_neg (by intro e; cases e; exact hr rfl)]) he hk
end
end Go.Proofs.Ytpbaojjcbpfdaaa
