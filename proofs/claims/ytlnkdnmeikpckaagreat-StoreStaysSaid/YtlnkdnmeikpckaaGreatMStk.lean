/- What the proofs lean on, part 11 of St. No condition. -/
import Derived.Test.YtlnkdnmeikpckaaGreatMSta
import Derived.Test.YtlnkdnmeikpckaaGreatMStb
import Derived.Test.YtlnkdnmeikpckaaGreatMStc
import Derived.Test.YtlnkdnmeikpckaaGreatMStd
import Derived.Test.YtlnkdnmeikpckaaGreatMStf
import Derived.Test.YtlnkdnmeikpckaaGreatMStg
import Derived.Test.YtlnkdnmeikpckaaGreatMSth
import Derived.Test.YtlnkdnmeikpckaaGreatMStj
namespace Go.Proofs.YtlnkdnmeikpckaaGreat
open Go.RowKit
set_option maxRecDepth 100000
section
variable {B sb : Nat} {lab : Nat → Nat} {w w' : World} {P : PSt} {v : SV}
theorem SAt.setG (h : SAt B lab w sb P v) (p : Nat → PGl) {G : Nat → Value} (hb : Blk w' sb 132 (stCells v.fl v.tl v.ml v.gl v.el v.dl v.il))
    (ho : Own w' B 149 5 AnyV v.gl P.ng G) (hk : Kept (ST sb v.gl) w w') (hnew : Mv lab lab (ST sb v.gl) w w' → (∀ b, b < w.heap.size → ST sb v.gl b → lab b ≠ 0) → ∀ i, i < P.ng → GlF G i (p i)) :
    ∃ lab' v', SAt B lab' w' sb { P with G := p } v' ∧ Mv lab lab' (fun b => lab b % 2 = 1) w w' := by
  have hS1 : ∀ b, b < w.heap.size → ST sb v.gl b → lab b = 1 := fun b _ x => by
    rcases x with e | e
    · rw [e]; exact h.ls.l
    · exact h.ls.lg b e
  have m : Mv lab lab (ST sb v.gl) w w' := ⟨hk, fun _ _ => rfl⟩
  have hS0 : ∀ b, b < w.heap.size → ST sb v.gl b → lab b ≠ 0 := fun b hb x => by rw [hS1 b hb x]; decide
  have hN := hnew m hS0
  refine ⟨lab, { v with G := G }, ⟨⟨hb, h.ls.l, h.ls.lo, h.ls.f.kept hk (h.ls.f.apart h.ls.g h.ls.obj (by decide) (by decide)), h.ls.t.kept hk (h.ls.t.apart h.ls.g h.ls.obj (by decide) (by decide)), h.ls.m.kept hk (h.ls.m.apart h.ls.g h.ls.obj (by decide) (by decide)), ho, h.ls.e.kept hk (h.ls.e.apart h.ls.g h.ls.obj (by decide) (by decide)), h.ls.d.kept hk (h.ls.d.apart h.ls.g h.ls.obj (by decide) (by decide)), h.ls.i.kept hk (h.ls.i.apart h.ls.g h.ls.obj (by decide) (by decide)), h.ls.lf, h.ls.lt, h.ls.lm, h.ls.lg, h.ls.le, h.ls.ld, h.ls.li⟩, ⟨fun i hi => (h.st.fn i hi).move m hS0 (fun _ _ => rfl), hN, fun i hi => (h.st.el i hi).move m hS0 (fun _ _ => rfl), fun i hi => (h.st.dt i hi).move m hS0 rfl, fun i hi => (h.st.inn i hi).move m hS0 rfl⟩, fun i hi => (h.tb i hi).move m (fun b hb x => by rw [hS1 b hb x]; omega) rfl, fun i hi => (h.mm i hi).move m (fun b hb x => by rw [hS1 b hb x]; omega) rfl⟩, ⟨hk.mono (fun b x => ?_), fun _ _ => rfl⟩⟩
  have hlt : b < w.heap.size := by
    rcases x with e | e
    · rw [e]; exact h.ls.obj.lt
    · exact (h.ls.g.lt b e).2
  show lab b % 2 = 1
  rw [hS1 b hlt x]
theorem SAt.setE (h : SAt B lab w sb P v) (p : Nat → PEl) {G : Nat → Value} (hb : Blk w' sb 132 (stCells v.fl v.tl v.ml v.gl v.el v.dl v.il))
    (ho : Own w' B 155 2 AnyV v.el P.ne G) (hk : Kept (ST sb v.el) w w') (hnew : Mv lab lab (ST sb v.el) w w' → (∀ b, b < w.heap.size → ST sb v.el b → lab b ≠ 0) → ∀ i, i < P.ne → ElL lab w' G i (p i)) :
    ∃ lab' v', SAt B lab' w' sb { P with E := p } v' ∧ Mv lab lab' (fun b => lab b % 2 = 1) w w' := by
  have hS1 : ∀ b, b < w.heap.size → ST sb v.el b → lab b = 1 := fun b _ x => by
    rcases x with e | e
    · rw [e]; exact h.ls.l
    · exact h.ls.le b e
  have m : Mv lab lab (ST sb v.el) w w' := ⟨hk, fun _ _ => rfl⟩
  have hS0 : ∀ b, b < w.heap.size → ST sb v.el b → lab b ≠ 0 := fun b hb x => by rw [hS1 b hb x]; decide
  have hN := hnew m hS0
  refine ⟨lab, { v with E := G }, ⟨⟨hb, h.ls.l, h.ls.lo, h.ls.f.kept hk (h.ls.f.apart h.ls.e h.ls.obj (by decide) (by decide)), h.ls.t.kept hk (h.ls.t.apart h.ls.e h.ls.obj (by decide) (by decide)), h.ls.m.kept hk (h.ls.m.apart h.ls.e h.ls.obj (by decide) (by decide)), h.ls.g.kept hk (h.ls.g.apart h.ls.e h.ls.obj (by decide) (by decide)), ho, h.ls.d.kept hk (h.ls.d.apart h.ls.e h.ls.obj (by decide) (by decide)), h.ls.i.kept hk (h.ls.i.apart h.ls.e h.ls.obj (by decide) (by decide)), h.ls.lf, h.ls.lt, h.ls.lm, h.ls.lg, h.ls.le, h.ls.ld, h.ls.li⟩, ⟨fun i hi => (h.st.fn i hi).move m hS0 (fun _ _ => rfl), h.st.gl, hN, fun i hi => (h.st.dt i hi).move m hS0 rfl, fun i hi => (h.st.inn i hi).move m hS0 rfl⟩, fun i hi => (h.tb i hi).move m (fun b hb x => by rw [hS1 b hb x]; omega) rfl, fun i hi => (h.mm i hi).move m (fun b hb x => by rw [hS1 b hb x]; omega) rfl⟩, ⟨hk.mono (fun b x => ?_), fun _ _ => rfl⟩⟩
  have hlt : b < w.heap.size := by
    rcases x with e | e
    · rw [e]; exact h.ls.obj.lt
    · exact (h.ls.e.lt b e).2
  show lab b % 2 = 1
  rw [hS1 b hlt x]
theorem SAt.setD (h : SAt B lab w sb P v) {G : Nat → Value} (hb : Blk w' sb 132 (stCells v.fl v.tl v.ml v.gl v.el v.dl v.il))
    (ho : Own w' B 71 1 AnyV v.dl P.nd G) (hk : Kept (ST sb v.dl) w w') (hnew : Mv lab lab (ST sb v.dl) w w' → (∀ b, b < w.heap.size → ST sb v.dl b → lab b ≠ 0) → ∀ i, i < P.nd → DtL lab w' G i) :
    ∃ lab' v', SAt B lab' w' sb P v' ∧ Mv lab lab' (fun b => lab b % 2 = 1) w w' := by
  have hS1 : ∀ b, b < w.heap.size → ST sb v.dl b → lab b = 1 := fun b _ x => by
    rcases x with e | e
    · rw [e]; exact h.ls.l
    · exact h.ls.ld b e
  have m : Mv lab lab (ST sb v.dl) w w' := ⟨hk, fun _ _ => rfl⟩
  have hS0 : ∀ b, b < w.heap.size → ST sb v.dl b → lab b ≠ 0 := fun b hb x => by rw [hS1 b hb x]; decide
  have hN := hnew m hS0
  refine ⟨lab, { v with D := G }, ⟨⟨hb, h.ls.l, h.ls.lo, h.ls.f.kept hk (h.ls.f.apart h.ls.d h.ls.obj (by decide) (by decide)), h.ls.t.kept hk (h.ls.t.apart h.ls.d h.ls.obj (by decide) (by decide)), h.ls.m.kept hk (h.ls.m.apart h.ls.d h.ls.obj (by decide) (by decide)), h.ls.g.kept hk (h.ls.g.apart h.ls.d h.ls.obj (by decide) (by decide)), h.ls.e.kept hk (h.ls.e.apart h.ls.d h.ls.obj (by decide) (by decide)), ho, h.ls.i.kept hk (h.ls.i.apart h.ls.d h.ls.obj (by decide) (by decide)), h.ls.lf, h.ls.lt, h.ls.lm, h.ls.lg, h.ls.le, h.ls.ld, h.ls.li⟩, ⟨fun i hi => (h.st.fn i hi).move m hS0 (fun _ _ => rfl), h.st.gl, fun i hi => (h.st.el i hi).move m hS0 (fun _ _ => rfl), hN, fun i hi => (h.st.inn i hi).move m hS0 rfl⟩, fun i hi => (h.tb i hi).move m (fun b hb x => by rw [hS1 b hb x]; omega) rfl, fun i hi => (h.mm i hi).move m (fun b hb x => by rw [hS1 b hb x]; omega) rfl⟩, ⟨hk.mono (fun b x => ?_), fun _ _ => rfl⟩⟩
  have hlt : b < w.heap.size := by
    rcases x with e | e
    · rw [e]; exact h.ls.obj.lt
    · exact (h.ls.d.lt b e).2
  show lab b % 2 = 1
  rw [hS1 b hlt x]
theorem SAt.chgT (h : SAt B lab w sb P v) {i : Nat} {tb : Nat} {lt lt' : Value} {mn mn' : Int} (p : T20.PT) (hi : i < P.nt) (hF : v.T i = .pointer (some ⟨tb, 0, none⟩)) (ht0 : T20.TabAt w tb B (P.T i).n (P.T i).el mn' (P.T i).mx (P.T i).bd lt (P.T i).f) (hl0 : lab tb = 4 * i + 3) (hg0 : ∀ g, lt.ownBlock = some g → lab g = 4 * i + 3) (ht : T20.TabAt w' tb B p.n p.el mn p.mx p.bd lt' p.f) (hk : Kept (T20.ST tb lt) w w') (hl : lt'.ownBlock = lt.ownBlock ∨ ∃ g, lt'.ownBlock = some g ∧ w.heap.size ≤ g) (hn : p.n ≤ 16384) (hel : p.el = 112 ∨ p.el = 111) (h3 : 0 ≤ p.mx) (h4 : p.mx ≤ 4294967295) (ok : ∀ j, j < p.n → VOk (p.f j)) :
    ∃ lab' v', SAt B lab' w' sb { P with T := upd P.T i p } v' ∧ Mv lab lab' (fun b => lab b % 2 = 1) w w' := by
  have hS1 : ∀ b, T20.ST tb lt b → lab b = 4 * i + 3 ∧ b < w.heap.size := fun b x => by
    rcases x with e | e
    · rw [e]; exact ⟨hl0, ht0.obj.lt⟩
    · exact ⟨hg0 b e, (ht0.own.lt b e).2⟩
  obtain ⟨lab', hlab⟩ : ∃ f : Nat → Nat, f = fun b => if b < w.heap.size then lab b else 4 * i + 3 := ⟨_, rfl⟩
  have l1 : ∀ b, b < w.heap.size → lab' b = lab b := fun b hb => by rw [hlab]; exact if_pos hb
  have l2 : ∀ b, w.heap.size ≤ b → lab' b = 4 * i + 3 := fun b hb => by rw [hlab]; exact if_neg (by omega)
  have m : Mv lab lab' (T20.ST tb lt) w w' := ⟨hk, l1⟩
  have hls := h.ls.move m (fun b hb x => by have := (hS1 b x).1; omega)
  have hst := h.st.move m (fun b hb x => by have := (hS1 b x).1; omega)
  refine ⟨lab', v, ⟨⟨hls.obj, hls.l, hls.lo, hls.f, hls.t, hls.m, hls.g, hls.e, hls.d, hls.i, hls.lf, hls.lt, hls.lm, hls.lg, hls.le, hls.ld, hls.li⟩, ⟨hst.fn, hst.gl, hst.el, hst.dt, hst.inn⟩, fun j hj => by
      by_cases e : j = i
      · subst e
        show TbL B lab' w' v.T j (upd P.T j p j)
        rw [upd_at]
        exact ⟨⟨tb, mn, lt', hF, ht, (l1 _ ht0.obj.lt).trans hl0, fun g hg => by
          rcases hl with e | ⟨g', e, hle⟩
          · have hg' := e ▸ hg
            rw [l1 g (ht0.own.lt g hg').2]; exact hg0 g hg'
          · obtain rfl : g' = g := by rw [e] at hg; exact Option.some.inj hg
            exact l2 _ hle⟩, hn, hel, h3, h4, ok⟩
      · show TbL B lab' w' v.T j (upd P.T i p j)
        rw [upd_ne _ _ e]
        exact (h.tb j hj).move m (fun b hb x => by have := (hS1 b x).1; omega) rfl, fun j hj => (h.mm j hj).move m (fun b hb x => by have := (hS1 b x).1; omega) rfl⟩, ⟨hk.mono (fun b x => ?_), l1⟩⟩
  have := (hS1 b x).1
  show lab b % 2 = 1
  omega
theorem SAt.chgM (h : SAt B lab w sb P v) {i : Nat} {pb bb b2 : Nat} {mn mn' : Int} {f f' : Nat → UInt8} (p : PMm) (hi : i < P.nm) (hF : v.M i = .pointer (some ⟨pb, 0, none⟩)) (ht0 : M19.MemAt w pb bb ((P.M i).pg * 65536) mn' (P.M i).mx (P.M i).bd f) (hl0 : lab pb = 4 * i + 5) (hg0 : lab bb = 4 * i + 5) (hp1 : B ≤ pb) (hp2 : B ≤ bb) (ht : M19.MemAt w' pb b2 (p.pg * 65536) mn p.mx p.bd f') (hk : Kept (S1 pb) w w') (hl : b2 = bb ∨ w.heap.size ≤ b2) (hBw : B ≤ w.heap.size) (hn : p.pg ≤ 16) (h3 : 0 ≤ p.mx) (h4 : p.mx ≤ 4294967295) :
    ∃ lab' v', SAt B lab' w' sb { P with M := upd P.M i p } v' ∧ Mv lab lab' (fun b => lab b % 2 = 1) w w' := by
  have hS1 : ∀ b, S1 pb b → lab b = 4 * i + 5 ∧ b < w.heap.size := fun b x => by
    have e : b = pb := x
    rw [e]; exact ⟨hl0, ht0.obj.lt⟩
  obtain ⟨lab', hlab⟩ : ∃ f : Nat → Nat, f = fun b => if b < w.heap.size then lab b else 4 * i + 5 := ⟨_, rfl⟩
  have l1 : ∀ b, b < w.heap.size → lab' b = lab b := fun b hb => by rw [hlab]; exact if_pos hb
  have l2 : ∀ b, w.heap.size ≤ b → lab' b = 4 * i + 5 := fun b hb => by rw [hlab]; exact if_neg (by omega)
  have m : Mv lab lab' (S1 pb) w w' := ⟨hk, l1⟩
  have hls := h.ls.move m (fun b hb x => by have := (hS1 b x).1; omega)
  have hst := h.st.move m (fun b hb x => by have := (hS1 b x).1; omega)
  refine ⟨lab', v, ⟨⟨hls.obj, hls.l, hls.lo, hls.f, hls.t, hls.m, hls.g, hls.e, hls.d, hls.i, hls.lf, hls.lt, hls.lm, hls.lg, hls.le, hls.ld, hls.li⟩, ⟨hst.fn, hst.gl, hst.el, hst.dt, hst.inn⟩, fun j hj => (h.tb j hj).move m (fun b hb x => by have := (hS1 b x).1; omega) rfl, fun j hj => by
      by_cases e : j = i
      · subst e
        show MmL B lab' w' v.M j (upd P.M j p j)
        rw [upd_at]
        exact ⟨⟨pb, b2, mn, _, hF, ht, (l1 _ ht0.obj.lt).trans hl0, by
          rcases hl with e | hle
          · rw [e, l1 bb ht0.row.lt]; exact hg0
          · exact l2 _ hle, hp1, by
          rcases hl with e | hle
          · rw [e]; exact hp2
          · exact Nat.le_trans hBw hle⟩, hn, h3, h4⟩
      · show MmL B lab' w' v.M j (upd P.M i p j)
        rw [upd_ne _ _ e]
        exact (h.mm j hj).move m (fun b hb x => by have := (hS1 b x).1; omega) rfl⟩, ⟨hk.mono (fun b x => ?_), l1⟩⟩
  have := (hS1 b x).1
  show lab b % 2 = 1
  omega
theorem RAt.setG (h : RAt B lab w sb P v) (p : Nat → PGl) {G : Nat → Value} (hb : Blk w' sb 89 (rCells v.fl v.tl v.ml v.gl v.el v.dl v.il))
    (ho : Own w' B 109 5 AnyV v.gl P.ng G) (hk : Kept (ST sb v.gl) w w') (hnew : Mv lab lab (ST sb v.gl) w w' → (∀ b, b < w.heap.size → ST sb v.gl b → lab b ≠ 0) → ∀ i, i < P.ng → GlF G i (p i)) :
    ∃ lab' v', RAt B lab' w' sb { P with G := p } v' ∧ Mv lab lab' (fun b => lab b ≠ 0 ∧ lab b % 2 = 0) w w' := by
  have hS1 : ∀ b, b < w.heap.size → ST sb v.gl b → lab b = 2 := fun b _ x => by
    rcases x with e | e
    · rw [e]; exact h.ls.l
    · exact h.ls.lg b e
  have m : Mv lab lab (ST sb v.gl) w w' := ⟨hk, fun _ _ => rfl⟩
  have hS0 : ∀ b, b < w.heap.size → ST sb v.gl b → lab b ≠ 0 := fun b hb x => by rw [hS1 b hb x]; decide
  have hN := hnew m hS0
  refine ⟨lab, { v with G := G }, ⟨⟨hb, h.ls.l, h.ls.lo, h.ls.f.kept hk (h.ls.f.apart h.ls.g h.ls.obj (by decide) (by decide)), h.ls.t.kept hk (h.ls.t.apart h.ls.g h.ls.obj (by decide) (by decide)), h.ls.m.kept hk (h.ls.m.apart h.ls.g h.ls.obj (by decide) (by decide)), ho, h.ls.e.kept hk (h.ls.e.apart h.ls.g h.ls.obj (by decide) (by decide)), h.ls.d.kept hk (h.ls.d.apart h.ls.g h.ls.obj (by decide) (by decide)), h.ls.i.kept hk (h.ls.i.apart h.ls.g h.ls.obj (by decide) (by decide)), h.ls.lf, h.ls.lt, h.ls.lm, h.ls.lg, h.ls.le, h.ls.ld, h.ls.li⟩, ⟨fun i hi => (h.st.fn i hi).move m hS0 (fun _ _ => rfl), hN, fun i hi => (h.st.el i hi).move m hS0 (fun _ _ => rfl), fun i hi => (h.st.dt i hi).move m hS0 rfl, fun i hi => (h.st.inn i hi).move m hS0 rfl⟩, fun i hi => (h.tb i hi).move m (fun b hb x => by rw [hS1 b hb x]; omega) rfl, fun i hi => (h.mm i hi).move m (fun b hb x => by rw [hS1 b hb x]; omega) rfl⟩, ⟨hk.mono (fun b x => ?_), fun _ _ => rfl⟩⟩
  have hlt : b < w.heap.size := by
    rcases x with e | e
    · rw [e]; exact h.ls.obj.lt
    · exact (h.ls.g.lt b e).2
  show lab b ≠ 0 ∧ lab b % 2 = 0
  rw [hS1 b hlt x]; decide
theorem RAt.setE (h : RAt B lab w sb P v) (p : Nat → PEl) {G : Nat → Value} (hb : Blk w' sb 89 (rCells v.fl v.tl v.ml v.gl v.el v.dl v.il))
    (ho : Own w' B 163 2 AnyV v.el P.ne G) (hk : Kept (ST sb v.el) w w') (hnew : Mv lab lab (ST sb v.el) w w' → (∀ b, b < w.heap.size → ST sb v.el b → lab b ≠ 0) → ∀ i, i < P.ne → ElL lab w' G i (p i)) :
    ∃ lab' v', RAt B lab' w' sb { P with E := p } v' ∧ Mv lab lab' (fun b => lab b ≠ 0 ∧ lab b % 2 = 0) w w' := by
  have hS1 : ∀ b, b < w.heap.size → ST sb v.el b → lab b = 2 := fun b _ x => by
    rcases x with e | e
    · rw [e]; exact h.ls.l
    · exact h.ls.le b e
  have m : Mv lab lab (ST sb v.el) w w' := ⟨hk, fun _ _ => rfl⟩
  have hS0 : ∀ b, b < w.heap.size → ST sb v.el b → lab b ≠ 0 := fun b hb x => by rw [hS1 b hb x]; decide
  have hN := hnew m hS0
  refine ⟨lab, { v with E := G }, ⟨⟨hb, h.ls.l, h.ls.lo, h.ls.f.kept hk (h.ls.f.apart h.ls.e h.ls.obj (by decide) (by decide)), h.ls.t.kept hk (h.ls.t.apart h.ls.e h.ls.obj (by decide) (by decide)), h.ls.m.kept hk (h.ls.m.apart h.ls.e h.ls.obj (by decide) (by decide)), h.ls.g.kept hk (h.ls.g.apart h.ls.e h.ls.obj (by decide) (by decide)), ho, h.ls.d.kept hk (h.ls.d.apart h.ls.e h.ls.obj (by decide) (by decide)), h.ls.i.kept hk (h.ls.i.apart h.ls.e h.ls.obj (by decide) (by decide)), h.ls.lf, h.ls.lt, h.ls.lm, h.ls.lg, h.ls.le, h.ls.ld, h.ls.li⟩, ⟨fun i hi => (h.st.fn i hi).move m hS0 (fun _ _ => rfl), h.st.gl, hN, fun i hi => (h.st.dt i hi).move m hS0 rfl, fun i hi => (h.st.inn i hi).move m hS0 rfl⟩, fun i hi => (h.tb i hi).move m (fun b hb x => by rw [hS1 b hb x]; omega) rfl, fun i hi => (h.mm i hi).move m (fun b hb x => by rw [hS1 b hb x]; omega) rfl⟩, ⟨hk.mono (fun b x => ?_), fun _ _ => rfl⟩⟩
  have hlt : b < w.heap.size := by
    rcases x with e | e
    · rw [e]; exact h.ls.obj.lt
    · exact (h.ls.e.lt b e).2
  show lab b ≠ 0 ∧ lab b % 2 = 0
  rw [hS1 b hlt x]; decide
theorem RAt.setD (h : RAt B lab w sb P v) {G : Nat → Value} (hb : Blk w' sb 89 (rCells v.fl v.tl v.ml v.gl v.el v.dl v.il))
    (ho : Own w' B 71 1 AnyV v.dl P.nd G) (hk : Kept (ST sb v.dl) w w') (hnew : Mv lab lab (ST sb v.dl) w w' → (∀ b, b < w.heap.size → ST sb v.dl b → lab b ≠ 0) → ∀ i, i < P.nd → DtL lab w' G i) :
    ∃ lab' v', RAt B lab' w' sb P v' ∧ Mv lab lab' (fun b => lab b ≠ 0 ∧ lab b % 2 = 0) w w' := by
  have hS1 : ∀ b, b < w.heap.size → ST sb v.dl b → lab b = 2 := fun b _ x => by
    rcases x with e | e
    · rw [e]; exact h.ls.l
    · exact h.ls.ld b e
  have m : Mv lab lab (ST sb v.dl) w w' := ⟨hk, fun _ _ => rfl⟩
  have hS0 : ∀ b, b < w.heap.size → ST sb v.dl b → lab b ≠ 0 := fun b hb x => by rw [hS1 b hb x]; decide
  have hN := hnew m hS0
  refine ⟨lab, { v with D := G }, ⟨⟨hb, h.ls.l, h.ls.lo, h.ls.f.kept hk (h.ls.f.apart h.ls.d h.ls.obj (by decide) (by decide)), h.ls.t.kept hk (h.ls.t.apart h.ls.d h.ls.obj (by decide) (by decide)), h.ls.m.kept hk (h.ls.m.apart h.ls.d h.ls.obj (by decide) (by decide)), h.ls.g.kept hk (h.ls.g.apart h.ls.d h.ls.obj (by decide) (by decide)), h.ls.e.kept hk (h.ls.e.apart h.ls.d h.ls.obj (by decide) (by decide)), ho, h.ls.i.kept hk (h.ls.i.apart h.ls.d h.ls.obj (by decide) (by decide)), h.ls.lf, h.ls.lt, h.ls.lm, h.ls.lg, h.ls.le, h.ls.ld, h.ls.li⟩, ⟨fun i hi => (h.st.fn i hi).move m hS0 (fun _ _ => rfl), h.st.gl, fun i hi => (h.st.el i hi).move m hS0 (fun _ _ => rfl), hN, fun i hi => (h.st.inn i hi).move m hS0 rfl⟩, fun i hi => (h.tb i hi).move m (fun b hb x => by rw [hS1 b hb x]; omega) rfl, fun i hi => (h.mm i hi).move m (fun b hb x => by rw [hS1 b hb x]; omega) rfl⟩, ⟨hk.mono (fun b x => ?_), fun _ _ => rfl⟩⟩
  have hlt : b < w.heap.size := by
    rcases x with e | e
    · rw [e]; exact h.ls.obj.lt
    · exact (h.ls.d.lt b e).2
  show lab b ≠ 0 ∧ lab b % 2 = 0
  rw [hS1 b hlt x]; decide
theorem RAt.chgT (h : RAt B lab w sb P v) {i : Nat} {tb : Nat} {lt lt' : Value} {mn mn' : Int} (p : T20.PT) (hi : i < P.nt) (hF : v.T i = .pointer (some ⟨tb, 0, none⟩)) (ht0 : T20.RefAt w tb B (P.T i).n (P.T i).el mn' (P.T i).mx (P.T i).bd lt (P.T i).f) (hl0 : lab tb = 4 * i + 4) (hg0 : ∀ g, lt.ownBlock = some g → lab g = 4 * i + 4) (ht : T20.RefAt w' tb B p.n p.el mn p.mx p.bd lt' p.f) (hk : Kept (T20.ST tb lt) w w') (hl : lt'.ownBlock = lt.ownBlock ∨ ∃ g, lt'.ownBlock = some g ∧ w.heap.size ≤ g) (hn : p.n ≤ 16384) (hel : p.el = 112 ∨ p.el = 111) (h3 : 0 ≤ p.mx) (h4 : p.mx ≤ 4294967295) (ok : ∀ j, j < p.n → VOk (p.f j)) :
    ∃ lab' v', RAt B lab' w' sb { P with T := upd P.T i p } v' ∧ Mv lab lab' (fun b => lab b ≠ 0 ∧ lab b % 2 = 0) w w' := by
  have hS1 : ∀ b, T20.ST tb lt b → lab b = 4 * i + 4 ∧ b < w.heap.size := fun b x => by
    rcases x with e | e
    · rw [e]; exact ⟨hl0, ht0.obj.lt⟩
    · exact ⟨hg0 b e, (ht0.own.lt b e).2⟩
  obtain ⟨lab', hlab⟩ : ∃ f : Nat → Nat, f = fun b => if b < w.heap.size then lab b else 4 * i + 4 := ⟨_, rfl⟩
  have l1 : ∀ b, b < w.heap.size → lab' b = lab b := fun b hb => by rw [hlab]; exact if_pos hb
  have l2 : ∀ b, w.heap.size ≤ b → lab' b = 4 * i + 4 := fun b hb => by rw [hlab]; exact if_neg (by omega)
  have m : Mv lab lab' (T20.ST tb lt) w w' := ⟨hk, l1⟩
  have hls := h.ls.move m (fun b hb x => by have := (hS1 b x).1; omega)
  have hst := h.st.move m (fun b hb x => by have := (hS1 b x).1; omega)
  refine ⟨lab', v, ⟨⟨hls.obj, hls.l, hls.lo, hls.f, hls.t, hls.m, hls.g, hls.e, hls.d, hls.i, hls.lf, hls.lt, hls.lm, hls.lg, hls.le, hls.ld, hls.li⟩, ⟨hst.fn, hst.gl, hst.el, hst.dt, hst.inn⟩, fun j hj => by
      by_cases e : j = i
      · subst e
        show RTbL B lab' w' v.T j (upd P.T j p j)
        rw [upd_at]
        exact ⟨⟨tb, mn, lt', hF, ht, (l1 _ ht0.obj.lt).trans hl0, fun g hg => by
          rcases hl with e | ⟨g', e, hle⟩
          · have hg' := e ▸ hg
            rw [l1 g (ht0.own.lt g hg').2]; exact hg0 g hg'
          · obtain rfl : g' = g := by rw [e] at hg; exact Option.some.inj hg
            exact l2 _ hle⟩, hn, hel, h3, h4, ok⟩
      · show RTbL B lab' w' v.T j (upd P.T i p j)
        rw [upd_ne _ _ e]
        exact (h.tb j hj).move m (fun b hb x => by have := (hS1 b x).1; omega) rfl, fun j hj => (h.mm j hj).move m (fun b hb x => by have := (hS1 b x).1; omega) rfl⟩, ⟨hk.mono (fun b x => ?_), l1⟩⟩
  have := (hS1 b x).1
  show lab b ≠ 0 ∧ lab b % 2 = 0
  omega
theorem RAt.chgM (h : RAt B lab w sb P v) {i : Nat} {rb : Nat} {lr lr' : Value} {mn mn' : Int} {f f' : Nat → UInt8} (p : PMm) (hi : i < P.nm) (hF : v.M i = .pointer (some ⟨rb, 0, none⟩)) (ht0 : M19.RMemAt w rb B ((P.M i).pg * 65536) mn' (P.M i).mx (P.M i).bd lr f) (hl0 : lab rb = 4 * i + 6) (hg0 : ∀ g, lr.ownBlock = some g → lab g = 4 * i + 6) (ht : M19.RMemAt w' rb B (p.pg * 65536) mn p.mx p.bd lr' f') (hk : Kept (M19.ST rb lr) w w') (hl : lr'.ownBlock = lr.ownBlock ∨ ∃ g, lr'.ownBlock = some g ∧ w.heap.size ≤ g) (hn : p.pg ≤ 16) (h3 : 0 ≤ p.mx) (h4 : p.mx ≤ 4294967295) :
    ∃ lab' v', RAt B lab' w' sb { P with M := upd P.M i p } v' ∧ Mv lab lab' (fun b => lab b ≠ 0 ∧ lab b % 2 = 0) w w' := by
  have hS1 : ∀ b, M19.ST rb lr b → lab b = 4 * i + 6 ∧ b < w.heap.size := fun b x => by
    rcases x with e | e
    · rw [e]; exact ⟨hl0, ht0.obj.lt⟩
    · exact ⟨hg0 b e, (ht0.own.lt b e).2⟩
  obtain ⟨lab', hlab⟩ : ∃ f : Nat → Nat, f = fun b => if b < w.heap.size then lab b else 4 * i + 6 := ⟨_, rfl⟩
  have l1 : ∀ b, b < w.heap.size → lab' b = lab b := fun b hb => by rw [hlab]; exact if_pos hb
  have l2 : ∀ b, w.heap.size ≤ b → lab' b = 4 * i + 6 := fun b hb => by rw [hlab]; exact if_neg (by omega)
  have m : Mv lab lab' (M19.ST rb lr) w w' := ⟨hk, l1⟩
  have hls := h.ls.move m (fun b hb x => by have := (hS1 b x).1; omega)
  have hst := h.st.move m (fun b hb x => by have := (hS1 b x).1; omega)
  refine ⟨lab', v, ⟨⟨hls.obj, hls.l, hls.lo, hls.f, hls.t, hls.m, hls.g, hls.e, hls.d, hls.i, hls.lf, hls.lt, hls.lm, hls.lg, hls.le, hls.ld, hls.li⟩, ⟨hst.fn, hst.gl, hst.el, hst.dt, hst.inn⟩, fun j hj => (h.tb j hj).move m (fun b hb x => by have := (hS1 b x).1; omega) rfl, fun j hj => by
      by_cases e : j = i
      · subst e
        show RMmL B lab' w' v.M j (upd P.M j p j)
        rw [upd_at]
        exact ⟨⟨rb, mn, lr', _, hF, ht, (l1 _ ht0.obj.lt).trans hl0, fun g hg => by
          rcases hl with e | ⟨g', e, hle⟩
          · have hg' := e ▸ hg
            rw [l1 g (ht0.own.lt g hg').2]; exact hg0 g hg'
          · obtain rfl : g' = g := by rw [e] at hg; exact Option.some.inj hg
            exact l2 _ hle⟩, hn, h3, h4⟩
      · show RMmL B lab' w' v.M j (upd P.M i p j)
        rw [upd_ne _ _ e]
        exact (h.mm j hj).move m (fun b hb x => by have := (hS1 b x).1; omega) rfl⟩, ⟨hk.mono (fun b x => ?_), l1⟩⟩
  have := (hS1 b x).1
  show lab b ≠ 0 ∧ lab b % 2 = 0
  omega
end
end Go.Proofs.YtlnkdnmeikpckaaGreat
namespace Go.Proofs.YtlnkdnmeikpckaaGreat.T20
open Go.RowKit
set_option maxRecDepth 100000
section
variable {w : World} {tb base N : Nat} {el mn mx : Int} {bd : Bool} {lv : Value} {f : Nat → V3}
theorem set_bad (at_ : Int) (x : V3) (hm : TabAt w tb base N el mn mx bd lv f) (hel : el = 112 ∨ el = 111) (hf : fitB x.t x.lo x.hi el = false) :
    Calls Tryz.prog 112 #[.pointer (some ⟨tb, 0, none⟩), .int .u32 at_, .agg #[.int .u8 x.t, .int .u64 x.lo, .int .u64 x.hi]] w fun e w' => e = .returned (.int .i64 2) ∧ Kept S0 w w' := by
  have hka : Kept S0 w (w.alloc (.cells #[.int .u8 x.t, .int .u64 x.lo, .int .u64 x.hi] 65)) := (Kept.refl S0 w).alloc _
  have H0 := Lib.hid (fill_bad at_ 1 x (hm.kept0 hka) hel hf)
  have hB := Blk.new w 65 #[.int .u8 x.t, .int .u64 x.lo, .int .u64 x.hi]
  have e0 := hB.cell 0
  have e1 := hB.cell 1
  have e2 := hB.cell 2
  clear hm hel hf hB
  go_enter Tryz.func112, Tryz.ntmps112
  go_wp2_with fail
  refine H0.out.mono ?_
  rintro e w1 ⟨rfl, hk⟩
  go_wp2_with fail
  go_ret
  exact ⟨rfl, hka.then0 hk⟩
theorem set_trap (at_ : Int) (x : V3) (hm : TabAt w tb base N el mn mx bd lv f) (hN : N ≤ 16384) (hel : el = 112 ∨ el = 111) (hf : fitB x.t x.lo x.hi el = true) (h1 : 0 ≤ at_) (h5 : at_ ≤ 4294967295) (ho : inB at_ 1 N = false) :
    Calls Tryz.prog 112 #[.pointer (some ⟨tb, 0, none⟩), .int .u32 at_, .agg #[.int .u8 x.t, .int .u64 x.lo, .int .u64 x.hi]] w fun e w' => e = .returned (.int .i64 6) ∧ Kept S0 w w' := by
  have hka : Kept S0 w (w.alloc (.cells #[.int .u8 x.t, .int .u64 x.lo, .int .u64 x.hi] 65)) := (Kept.refl S0 w).alloc _
  have H0 := Lib.hid (fill_trap at_ 1 x (hm.kept0 hka) hN hel hf h1 (by omega) h5 (by omega) ho)
  have hB := Blk.new w 65 #[.int .u8 x.t, .int .u64 x.lo, .int .u64 x.hi]
  have e0 := hB.cell 0
  have e1 := hB.cell 1
  have e2 := hB.cell 2
  clear hm hel hf hB
  go_enter Tryz.func112, Tryz.ntmps112
  go_wp2_with fail
  refine H0.out.mono ?_
  rintro e w1 ⟨rfl, hk⟩
  go_wp2_with fail
  go_ret
  exact ⟨rfl, hka.then0 hk⟩
theorem set_in (k : Nat) (x : V3) (hm : TabAt w tb base N el mn mx bd lv f) (hN : N ≤ 16384) (hel : el = 112 ∨ el = 111) (hf : fitB x.t x.lo x.hi el = true) (hk : k < N) :
    Calls Tryz.prog 112 #[.pointer (some ⟨tb, 0, none⟩), .int .u32 (k : Int), .agg #[.int .u8 x.t, .int .u64 x.lo, .int .u64 x.hi]] w fun e w' => e = .returned (.int .i64 0) ∧ TabAt w' tb base N el mn mx bd lv (overV f k 1 (fun _ => x)) ∧ Kept (SO lv) w w' := by
  have hka : Kept S0 w (w.alloc (.cells #[.int .u8 x.t, .int .u64 x.lo, .int .u64 x.hi] 65)) := (Kept.refl S0 w).alloc _
  have H0 := Lib.hid (fill_in k 1 x (hm.kept0 hka) hN hel hf (by omega))
  have hB := Blk.new w 65 #[.int .u8 x.t, .int .u64 x.lo, .int .u64 x.hi]
  have e0 := hB.cell 0
  have e1 := hB.cell 1
  have e2 := hB.cell 2
  clear hm hel hf hB
  go_enter Tryz.func112, Tryz.ntmps112
  go_wp2_with fail
  refine H0.out.mono ?_
  rintro e w1 ⟨rfl, hm1, hk⟩
  go_wp2_with fail
  go_ret
  exact ⟨rfl, hm1, (hka.of0 _).trans hk⟩
end
end Go.Proofs.YtlnkdnmeikpckaaGreat.T20
namespace Go.Proofs.YtlnkdnmeikpckaaGreat.T20
open Go.RowKit
set_option maxRecDepth 100000
/-- What Fill answers, and what there is then. -/
def PT.fillE (s : PT) (a k : Nat) (x : V3) : Int := if fitB x.t x.lo x.hi s.el = true then (if a + k ≤ s.n then 0 else 6) else 2
def PT.fillF (s : PT) (a k : Nat) (x : V3) : Nat → V3 := if fitB x.t x.lo x.hi s.el = true ∧ a + k ≤ s.n then overV s.f a k (fun _ => x) else s.f
/-- What Grow answers, and how many there are then. -/
def PT.growN (s : PT) (k : Nat) (x : V3) : Nat := if fitB x.t x.lo x.hi s.el = true ∧ growB s.n k s.mx s.bd = true then s.n + k else s.n
def PT.growV (s : PT) (k : Nat) (x : V3) : Int := if fitB x.t x.lo x.hi s.el = true then (if growB s.n k s.mx s.bd = true then (s.n : Int) else 4294967295) else 0
def PT.growE (s : PT) (x : V3) : Int := if fitB x.t x.lo x.hi s.el = true then 0 else 2
section
variable {w : World} {B tp rp : Nat} {mn : Int} {lt lr : Value} {s : PT}
theorem fill_is (a k : Nat) (x : V3) (h : TabAt w tp B s.n s.el mn s.mx s.bd lt s.f) (hn : s.n ≤ 16384) (hel : s.el = 112 ∨ s.el = 111) (ha : a ≤ 4294967295) (hk : k ≤ 4294967295) :
    Calls Tryz.prog 129 #[.pointer (some ⟨tp, 0, none⟩), .int .u32 (a : Int), .agg #[.int .u8 x.t, .int .u64 x.lo, .int .u64 x.hi], .int .u32 (k : Int)] w fun e w' => e = .returned (.int .i64 (s.fillE a k x)) ∧ TabAt w' tp B s.n s.el mn s.mx s.bd lt (s.fillF a k x) ∧ Kept (SO lt) w w' := by
  unfold PT.fillE PT.fillF
  cases hf : fitB x.t x.lo x.hi s.el with
  | false =>
    refine (fill_bad a k x h hel hf).mono ?_
    rintro e w1 ⟨rfl, hk⟩
    simp only [Bool.false_eq_true, if_false, false_and]
    exact ⟨trivial, h.kept0 hk, hk.of0 _⟩
  | true =>
    by_cases hin : a + k ≤ s.n
    · refine (fill_in a k x h hn hel hf hin).mono ?_
      rintro e w1 ⟨rfl, hm, hk⟩
      rw [if_pos rfl, if_pos hin, if_pos ⟨rfl, hin⟩]
      exact ⟨rfl, hm, hk⟩
    · refine (fill_trap a k x h hn hel hf (by omega) (by omega) (by omega) (by omega) (by unfold inB; exact decide_eq_false (by omega))).mono ?_
      rintro e w1 ⟨rfl, hk⟩
      rw [if_pos rfl, if_neg hin, if_neg (fun e => hin e.2)]
      exact ⟨rfl, h.kept0 hk, hk.of0 _⟩
theorem rfill_is (a k : Nat) (x : V3) (h : RefAt w rp B s.n s.el mn s.mx s.bd lr s.f) (hn : s.n ≤ 16384) (hel : s.el = 112 ∨ s.el = 111) (ha : a ≤ 4294967295) (hk : k ≤ 4294967295) :
    Calls Tryz.prog 113 #[.pointer (some ⟨rp, 0, none⟩), .int .u32 (a : Int), .agg #[.int .u8 x.t, .int .u64 x.lo, .int .u64 x.hi], .int .u32 (k : Int)] w fun e w' => e = .returned (.int .i64 (s.fillE a k x)) ∧ RefAt w' rp B s.n s.el mn s.mx s.bd lr (s.fillF a k x) ∧ Kept (SO lr) w w' := by
  unfold PT.fillE PT.fillF
  cases hf : fitB x.t x.lo x.hi s.el with
  | false =>
    refine (rfill_bad a k x h hel hf).mono ?_
    rintro e w1 ⟨rfl, hk⟩
    simp only [Bool.false_eq_true, if_false, false_and]
    exact ⟨trivial, h.kept0 hk, hk.of0 _⟩
  | true =>
    by_cases hin : a + k ≤ s.n
    · refine (rfill_in a k x h hn hel hf hin).mono ?_
      rintro e w1 ⟨rfl, hm, hk⟩
      rw [if_pos rfl, if_pos hin, if_pos ⟨rfl, hin⟩]
      exact ⟨rfl, hm, hk⟩
    · refine (rfill_trap a k x h hn hel hf (by omega) (by omega) (by omega) (by omega) (by unfold inB; exact decide_eq_false (by omega))).mono ?_
      rintro e w1 ⟨rfl, hk⟩
      rw [if_pos rfl, if_neg hin, if_neg (fun e => hin e.2)]
      exact ⟨rfl, h.kept0 hk, hk.of0 _⟩
theorem set_is (a : Nat) (x : V3) (h : TabAt w tp B s.n s.el mn s.mx s.bd lt s.f) (hn : s.n ≤ 16384) (hel : s.el = 112 ∨ s.el = 111) (ha : a ≤ 4294967295) :
    Calls Tryz.prog 112 #[.pointer (some ⟨tp, 0, none⟩), .int .u32 (a : Int), .agg #[.int .u8 x.t, .int .u64 x.lo, .int .u64 x.hi]] w fun e w' => e = .returned (.int .i64 (s.fillE a 1 x)) ∧ TabAt w' tp B s.n s.el mn s.mx s.bd lt (s.fillF a 1 x) ∧ Kept (SO lt) w w' := by
  unfold PT.fillE PT.fillF
  cases hf : fitB x.t x.lo x.hi s.el with
  | false =>
    refine (set_bad a x h hel hf).mono ?_
    rintro e w1 ⟨rfl, hk⟩
    simp only [Bool.false_eq_true, if_false, false_and]
    exact ⟨trivial, h.kept0 hk, hk.of0 _⟩
  | true =>
    by_cases hin : a + 1 ≤ s.n
    · refine (set_in a x h hn hel hf hin).mono ?_
      rintro e w1 ⟨rfl, hm, hk⟩
      rw [if_pos rfl, if_pos hin, if_pos ⟨rfl, hin⟩]
      exact ⟨rfl, hm, hk⟩
    · refine (set_trap a x h hn hel hf (by omega) (by omega) (by unfold inB; exact decide_eq_false (by omega))).mono ?_
      rintro e w1 ⟨rfl, hk⟩
      rw [if_pos rfl, if_neg hin, if_neg (fun e => hin e.2)]
      exact ⟨rfl, h.kept0 hk, hk.of0 _⟩
set_option maxHeartbeats 1600000 in
theorem grow_bad (k : Int) (x : V3) (hm : TabAt w tp B s.n s.el mn s.mx s.bd lt s.f) (hel : s.el = 112 ∨ s.el = 111) (hf : fitB x.t x.lo x.hi s.el = false) :
    Calls Tryz.prog 114 #[.pointer (some ⟨tp, 0, none⟩), .int .u32 k, .agg #[.int .u8 x.t, .int .u64 x.lo, .int .u64 x.hi]] w fun e w' => e = .returned (.tuple #[.int .u32 0, .int .i64 2]) ∧ Kept S0 w w' := by
  have hka : Kept S0 w (w.alloc (.cells #[.int .u8 x.t, .int .u64 x.lo, .int .u64 x.hi] 65)) := (Kept.refl S0 w).alloc _
  have hm1 := hm.kept0 hka
  have c0 := hm1.c0
  have c1 := hm1.c1
  have hB := Blk.new w 65 #[.int .u8 x.t, .int .u64 x.lo, .int .u64 x.hi]
  have e0 : (w.alloc (.cells #[.int .u8 x.t, .int .u64 x.lo, .int .u64 x.hi] 65)).cell? ⟨w.heap.size, 0, none⟩ = some (.int .u8 x.t) := hB.cell 0
  have e1 : (w.alloc (.cells #[.int .u8 x.t, .int .u64 x.lo, .int .u64 x.hi] 65)).cell? ⟨w.heap.size, 1, none⟩ = some (.int .u64 x.lo) := hB.cell 1
  have e2 : (w.alloc (.cells #[.int .u8 x.t, .int .u64 x.lo, .int .u64 x.hi] 65)).cell? ⟨w.heap.size, 2, none⟩ = some (.int .u64 x.hi) := hB.cell 2
  have HF := Lib.hid hf
  have HE := Lib.hid hel
  clear hm hm1 hB hf hel
  go_enter Tryz.func114, Tryz.ntmps114
  go_wp2_with fail
  refine (off_made _ _ c0).mono ?_
  rintro e w1 ⟨rfl, rfl⟩
  go_wp2_with fail
  generalize hw1 : w.alloc (.cells #[.int .u8 x.t, .int .u64 x.lo, .int .u64 x.hi] 65) = w1 at *
  have HW := Lib.hid hw1
  clear hw1
  go_still_tail 6, (by kernel_rfl)
  change wpList _ _ _ _ _ (World.drew _)
  go_wp2_with fail
  refine (fits_ref x.t x.lo x.hi s.el _ HE.out).mono ?_
  rintro e w2 ⟨rfl, hk⟩
  rw [HF.out]
  have hk1 := hka.drew.then0 hk
  go_wp2_with fail
  go_ret2
  exact ⟨rfl, hk1⟩
theorem grow_is (k : Nat) (x : V3) (h : TabAt w tp B s.n s.el mn s.mx s.bd lt s.f) (hn : s.n ≤ 16384) (hel : s.el = 112 ∨ s.el = 111) (h3 : 0 ≤ s.mx) (h4 : s.mx ≤ 4294967295) (hB : B ≤ w.heap.size) (hk : k ≤ 4294967295) :
    Calls Tryz.prog 114 #[.pointer (some ⟨tp, 0, none⟩), .int .u32 (k : Int), .agg #[.int .u8 x.t, .int .u64 x.lo, .int .u64 x.hi]] w fun e w' => e = .returned (.tuple #[.int .u32 (s.growV k x), .int .i64 (s.growE x)]) ∧ ∃ lj, TabAt w' tp B (s.growN k x) s.el mn s.mx s.bd lj (afterV s.n s.f (fun _ => x)) ∧ Kept (ST tp lt) w w' ∧ (lj.ownBlock = (lt).ownBlock ∨ ∃ g, lj.ownBlock = some g ∧ w.heap.size ≤ g) := by
  unfold PT.growV PT.growE PT.growN
  have hc : TabAt w tp B s.n s.el mn s.mx s.bd lt (afterV s.n s.f (fun _ => x)) := h.congr (fun i hi => by unfold afterV; rw [if_pos hi])
  cases hf : fitB x.t x.lo x.hi s.el with
  | false =>
    refine (grow_bad k x h hel hf).mono ?_
    rintro e w1 ⟨rfl, hk⟩
    simp only [Bool.false_eq_true, if_false, false_and]
    exact ⟨trivial, _, hc.kept0 hk, hk.of0 _, .inl rfl⟩
  | true =>
    cases hg : growB s.n k s.mx s.bd with
    | true =>
      refine (grow_yes k x h hn hk h3 h4 hel hf hg hB).mono ?_
      rintro e w1 ⟨rfl, lj, hm, hk, hb⟩
      simp only [if_true, and_self]
      exact ⟨trivial, lj, hm, hk, hb⟩
    | false =>
      refine (grow_no k x h hn hk h3 h4 hel hf hg).mono ?_
      rintro e w1 ⟨rfl, hk⟩
      simp only [Bool.false_eq_true, if_false, if_true, and_false]
      exact ⟨trivial, _, hc.kept0 hk, hk.of0 _, .inl rfl⟩
theorem rgrow_is (k : Nat) (x : V3) (h : RefAt w rp B s.n s.el mn s.mx s.bd lr s.f) (hn : s.n ≤ 16384) (hel : s.el = 112 ∨ s.el = 111) (h3 : 0 ≤ s.mx) (h4 : s.mx ≤ 4294967295) (hB : B ≤ w.heap.size) (hk : k ≤ 4294967295) :
    Calls Tryz.prog 115 #[.pointer (some ⟨rp, 0, none⟩), .int .u32 (k : Int), .agg #[.int .u8 x.t, .int .u64 x.lo, .int .u64 x.hi]] w fun e w' => e = .returned (.tuple #[.int .u32 (s.growV k x), .int .i64 (s.growE x)]) ∧ ∃ lj, RefAt w' rp B (s.growN k x) s.el mn s.mx s.bd lj (afterV s.n s.f (fun _ => x)) ∧ Kept (ST rp lr) w w' ∧ (lj.ownBlock = (lr).ownBlock ∨ ∃ g, lj.ownBlock = some g ∧ w.heap.size ≤ g) := by
  unfold PT.growV PT.growE PT.growN
  have hc : RefAt w rp B s.n s.el mn s.mx s.bd lr (afterV s.n s.f (fun _ => x)) := h.congr (fun i hi => by unfold afterV; rw [if_pos hi])
  cases hf : fitB x.t x.lo x.hi s.el with
  | false =>
    refine (rgrow_bad k x h hel hf).mono ?_
    rintro e w1 ⟨rfl, hk⟩
    simp only [Bool.false_eq_true, if_false, false_and]
    exact ⟨trivial, _, hc.kept0 hk, hk.of0 _, .inl rfl⟩
  | true =>
    cases hg : growB s.n k s.mx s.bd with
    | true =>
      refine (rgrow_yes k x h hn hk h3 h4 hel hf hg hB).mono ?_
      rintro e w1 ⟨rfl, lj, hm, hk, hb⟩
      simp only [if_true, and_self]
      exact ⟨trivial, lj, hm, hk, hb⟩
    | false =>
      refine (rgrow_no k x h hn hk h3 h4 hel hf hg).mono ?_
      rintro e w1 ⟨rfl, hk⟩
      simp only [Bool.false_eq_true, if_false, if_true, and_false]
      exact ⟨trivial, _, hc.kept0 hk, hk.of0 _, .inl rfl⟩
variable (po pr : Value) (s2 o2 : Bool) (a fr k : Nat) (x : V3) (L : Option Addr) (m c : Nat)
end
end Go.Proofs.YtlnkdnmeikpckaaGreat.T20
namespace Go.Proofs.YtlnkdnmeikpckaaGreat
open Go.RowKit
set_option maxRecDepth 100000
def isIn (a : Int) (n : Nat) : Bool := decide (0 ≤ a) && decide (a < (n : Int))
theorem isIn_nat {a : Int} {n : Nat} (h : isIn a n = true) : ∃ k : Nat, a = (k : Int) ∧ k < n := by
  unfold isIn at h
  simp only [Bool.and_eq_true, decide_eq_true_eq] at h
  exact ⟨a.toNat, by omega, by omega⟩
theorem isIn_not {a : Int} {n : Nat} (h : isIn a n = false) : a < 0 ∨ (n : Int) ≤ a := by
  unfold isIn at h
  simp only [Bool.and_eq_false_iff, decide_eq_false_iff_not] at h
  omega
def setGE (P : PSt) (a : Int) (x : V3) : Int := if isIn a P.ng = true then (if globB (P.G a.toNat).t x = true then 0 else 2) else 11
def setGP (P : PSt) (a : Int) (x : V3) : PSt := if isIn a P.ng = true ∧ globB (P.G a.toNat).t x = true then { P with G := upd P.G a.toNat { P.G a.toNat with x := x } } else P
def dropR (n : Nat) (a : Int) : Int := if isIn a n = true then 0 else 11
def dropEP (P : PSt) (a : Int) : PSt := if isIn a P.ne = true then { P with E := upd P.E a.toNat { P.E a.toNat with n := 0 } } else P
def tsetP (P : PSt) (i k : Nat) (x : V3) : PSt := { P with T := upd P.T i { P.T i with f := (P.T i).fillF k 1 x } }
def tgrowP (P : PSt) (i k : Nat) (x : V3) : PSt := { P with T := upd P.T i { P.T i with n := (P.T i).growN k x, f := afterV (P.T i).n (P.T i).f (fun _ => x) } }
def mgrowP (P : PSt) (i k : Nat) : PSt := { P with M := upd P.M i { P.M i with pg := M19.gwP (P.M i).pg k (P.M i).mx (P.M i).bd } }
theorem lstl_none {lab : Nat → Nat} {w : World} {sz bytes : Nat} {F : Nat → Value} : LstL lab w sz bytes none 0 0 F := ⟨fun h => absurd h (by omega), fun _ => ⟨rfl, rfl⟩, by omega⟩
theorem fillF_ok {s : T20.PT} {k n : Nat} {x : V3} (hx : VOk x) (ok : ∀ j, j < s.n → VOk (s.f j)) : ∀ j, j < s.n → VOk (s.fillF k n x j) := fun j hj => by
  unfold T20.PT.fillF
  split
  · unfold overV
    split
    · exact hx
    · exact ok j hj
  · exact ok j hj
theorem growF_ok {s : T20.PT} {n : Nat} {x : V3} (hx : VOk x) (ok : ∀ j, j < s.n → VOk (s.f j)) : ∀ j, j < n → VOk (afterV s.n s.f (fun _ => x) j) := fun j hj => by
  unfold afterV
  split
  · exact ok j (by assumption)
  · exact hx
theorem growN_le {s : T20.PT} {k : Nat} {x : V3} (h : s.n ≤ 16384) : s.growN k x ≤ 16384 := by
  unfold T20.PT.growN
  split
  · rename_i hg
    have := hg.2
    unfold T20.growB at this
    simp only [Bool.and_eq_true, decide_eq_true_eq] at this
    omega
  · exact h
theorem GlF.setG {F : Nat → Value} {a : Nat} {x : V3} {g : Nat → PGl} (hx : VOk x) (n : Nat) (h : ∀ i, i < n → GlF F i (g i)) : ∀ i, i < n → GlF (setG F a x) i (upd g a { g a with x := x } i) := fun i hi => by
  have hh := h i hi
  by_cases e : i = a
  · subst e
    rw [upd_at]
    refine ⟨?_, ?_, ?_, ?_, ?_, hx⟩ <;> unfold Go.Proofs.YtlnkdnmeikpckaaGreat.setG
    · rw [if_neg (by omega), if_neg (by omega), if_neg (by omega)]; exact hh.f0
    · rw [if_neg (by omega), if_neg (by omega), if_neg (by omega)]; exact hh.f1
    · rw [if_neg (by omega), if_neg (by omega), if_pos rfl]
    · rw [if_neg (by omega), if_pos rfl]
    · rw [if_pos rfl]
  · rw [upd_ne _ _ e]
    refine hh.move (fun j hj => ?_)
    unfold Go.Proofs.YtlnkdnmeikpckaaGreat.setG
    rw [if_neg (by omega), if_neg (by omega), if_neg (by omega)]
theorem ElL.drop {lab lab' : Nat → Nat} {w w' : World} {S : Nat → Prop} {F : Nat → Value} {a n : Nat} {g : Nat → PEl} (h : ∀ i, i < n → ElL lab w F i (g i)) (m : Mv lab lab' S w w') (hS : ∀ b, b < w.heap.size → S b → lab b ≠ 0) : ∀ i, i < n → ElL lab' w' (fun i => if i = a * 2 + 1 then .slice none 0 0 else F i) i (upd g a { g a with n := 0 } i) := fun i hi => by
  have hh := h i hi
  by_cases e : i = a
  · subst e
    rw [upd_at]
    obtain ⟨A, c, f0, f1, l1⟩ := hh.ex
    exact ⟨⟨none, 0, by rw [if_neg (by omega)]; exact f0, if_pos rfl, lstl_none⟩, fun j hj => absurd hj (Nat.not_lt_zero _)⟩
  · rw [upd_ne _ _ e]
    exact hh.move m hS (fun j hj => if_neg (by omega))
theorem DtL.drop {lab lab' : Nat → Nat} {w w' : World} {S : Nat → Prop} {F : Nat → Value} {a n : Nat} (h : ∀ i, i < n → DtL lab w F i) (m : Mv lab lab' S w w') (hS : ∀ b, b < w.heap.size → S b → lab b ≠ 0) : ∀ i, i < n → DtL lab' w' (fun i => if i = a then .slice none 0 0 else F i) i := fun i hi => by
  by_cases e : i = a
  · exact ⟨none, 0, 0, fun _ => 0, if_pos e, lstl_none⟩
  · exact (h i hi).move m hS (if_neg e)
section
variable {B : Nat} {w : World} {sb : Nat} {lab : Nat → Nat} {P : PSt} {v : SV}
theorem s_setG (a : Int) (x : V3) (hx : VOk x) (h : SAt B lab w sb P v) (hP : P.Le 200) :
    Calls Tryz.prog 109 #[.pointer (some ⟨sb, 0, none⟩), .int .i64 a, .agg #[.int .u8 x.t, .int .u64 x.lo, .int .u64 x.hi]] w fun e w' => e = .returned (.int .i64 (setGE P a x)) ∧ SDone B lab w w' sb (setGP P a x) := by
  have hn : P.ng ≤ 65536 := by have := hP.g; omega
  cases hi : isIn a P.ng with
  | false =>
    refine (setglob_none a x h.ls.obj h.ls.g hn (isIn_not hi)).mono ?_
    rintro e w' ⟨rfl, hk⟩
    rw [setGE, setGP, if_neg (by simp [hi]), if_neg (by simp [hi])]
    exact ⟨rfl, h.done0 hk⟩
  | true =>
    obtain ⟨k, rfl, hk⟩ := isIn_nat hi
    have hgl := h.st.gl k hk
    have e1 : ((k : Int)).toNat = k := by omega
    rw [setGE, setGP, if_pos hi, e1]
    cases hg : globB (P.G k).t x with
    | false =>
      refine (setglob_err k _ x hx h.ls.obj h.ls.g hn hk hgl.f0 hg).mono ?_
      rintro e w' ⟨rfl, hk⟩
      rw [if_neg (by simp), if_neg (by simp)]
      exact ⟨rfl, h.done0 hk⟩
    | true =>
      refine (setglob_ok k _ x hx h.ls.obj h.ls.g hn hk hgl.f0 hg).mono ?_
      rintro e w' ⟨rfl, hbk, ho, hkk⟩
      rw [if_pos rfl, if_pos ⟨hi, rfl⟩]
      exact ⟨rfl, h.setG _ hbk ho hkk (fun _ _ => GlF.setG hx _ h.st.gl)⟩
theorem s_drope (a : Int) (h : SAt B lab w sb P v) (hP : P.Le 200) :
    Calls Tryz.prog 28 #[.pointer (some ⟨sb, 0, none⟩), .int .u8 1, .int .i64 a] w fun e w' => e = .returned (.int .i64 (dropR P.ne a)) ∧ SDone B lab w w' sb (dropEP P a) := by
  have hn : P.ne ≤ 65536 := by have := hP.e; omega
  cases hi : isIn a P.ne with
  | false =>
    refine (dropelem_out a h.ls.obj h.ls.e hn (isIn_not hi)).mono ?_
    rintro e w' ⟨rfl, rfl⟩
    rw [dropR, dropEP, if_neg (by simp [hi]), if_neg (by simp [hi])]
    exact ⟨rfl, h.done0 (Kept.refl _ _)⟩
  | true =>
    obtain ⟨k, rfl, hk⟩ := isIn_nat hi
    have e1 : ((k : Int)).toNat = k := by omega
    refine (dropelem_in k h.ls.obj h.ls.e hn hk).mono ?_
    rintro e w' ⟨rfl, hbk, ho, hkk⟩
    rw [dropR, dropEP, if_pos hi, e1, if_pos hi]
    exact ⟨rfl, h.setE _ hbk ho hkk (fun m hS => ElL.drop h.st.el m hS)⟩
theorem s_dropd (a : Int) (h : SAt B lab w sb P v) (hP : P.Le 200) :
    Calls Tryz.prog 28 #[.pointer (some ⟨sb, 0, none⟩), .int .u8 2, .int .i64 a] w fun e w' => e = .returned (.int .i64 (dropR P.nd a)) ∧ SDone B lab w w' sb (P) := by
  have hn : P.nd ≤ 65536 := by have := hP.d; omega
  cases hi : isIn a P.nd with
  | false =>
    refine (dropdata_out a h.ls.obj h.ls.d hn (isIn_not hi)).mono ?_
    rintro e w' ⟨rfl, rfl⟩
    rw [dropR, if_neg (by simp [hi])]
    exact ⟨rfl, h.done0 (Kept.refl _ _)⟩
  | true =>
    obtain ⟨k, rfl, hk⟩ := isIn_nat hi
    have e1 : ((k : Int)).toNat = k := by omega
    refine (dropdata_in k h.ls.obj h.ls.d hn hk).mono ?_
    rintro e w' ⟨rfl, hbk, ho, hkk⟩
    rw [dropR, if_pos hi]
    exact ⟨rfl, h.setD hbk ho hkk (fun m hS => DtL.drop h.st.dt m hS)⟩
theorem s_tset {i tb : Nat} (k : Nat) (x : V3) (hk : k ≤ 4294967295) (hx : VOk x) (h : SAt B lab w sb P v) (hi : i < P.nt) (hF : v.T i = .pointer (some ⟨tb, 0, none⟩)) :
    Calls Tryz.prog 112 #[.pointer (some ⟨tb, 0, none⟩), .int .u32 (k : Int), .agg #[.int .u8 x.t, .int .u64 x.lo, .int .u64 x.hi]] w fun e w' => e = .returned (.int .i64 ((P.T i).fillE k 1 x)) ∧ SDone B lab w w' sb (tsetP P i k x) := by
  have ht := h.tb i hi
  obtain ⟨tb', mn, lt, f0, hta, l1, l2⟩ := ht.ex
  obtain rfl : tb' = tb := by rw [hF] at f0; injection f0 with f0; injection f0 with f0; injection f0 with f0; exact f0.symm
  refine (T20.set_is k x hta ht.hn ht.hel hk).mono ?_
  rintro e w' ⟨rfl, hm, hkk⟩
  exact ⟨rfl, h.chgT { P.T i with f := (P.T i).fillF k 1 x } hi hF hta l1 l2 hm (hkk.mono (fun _ e => .inr e)) (.inl rfl) ht.hn ht.hel ht.h3 ht.h4 (fillF_ok hx ht.ok)⟩
theorem s_tgrow {i tb : Nat} (k : Nat) (x : V3) (hk : k ≤ 4294967295) (hx : VOk x) (h : SAt B lab w sb P v) (hB : B ≤ w.heap.size) (hi : i < P.nt) (hF : v.T i = .pointer (some ⟨tb, 0, none⟩)) :
    Calls Tryz.prog 114 #[.pointer (some ⟨tb, 0, none⟩), .int .u32 (k : Int), .agg #[.int .u8 x.t, .int .u64 x.lo, .int .u64 x.hi]] w fun e w' => e = .returned (.tuple #[.int .u32 ((P.T i).growV k x), .int .i64 ((P.T i).growE x)]) ∧ SDone B lab w w' sb (tgrowP P i k x) := by
  have ht := h.tb i hi
  obtain ⟨tb', mn, lt, f0, hta, l1, l2⟩ := ht.ex
  obtain rfl : tb' = tb := by rw [hF] at f0; injection f0 with f0; injection f0 with f0; injection f0 with f0; exact f0.symm
  refine (T20.grow_is k x hta ht.hn ht.hel ht.h3 ht.h4 hB hk).mono ?_
  rintro e w' ⟨rfl, lj, hm, hkk, hl⟩
  exact ⟨rfl, h.chgT { P.T i with n := (P.T i).growN k x, f := afterV (P.T i).n (P.T i).f (fun _ => x) } hi hF hta l1 l2 hm hkk hl (growN_le ht.hn) ht.hel ht.h3 ht.h4 (growF_ok hx ht.ok)⟩
theorem s_mgrow {i pb : Nat} (k : Nat) (hk : k ≤ 4294967295) (h : SAt B lab w sb P v) (hB : B ≤ w.heap.size) (hi : i < P.nm) (hF : v.M i = .pointer (some ⟨pb, 0, none⟩)) :
    Calls Tryz.prog 116 #[.pointer (some ⟨pb, 0, none⟩), .int .u32 (k : Int)] w fun e w' => e = .returned (.tuple #[.int .u32 (M19.gwV (P.M i).pg k (P.M i).mx (P.M i).bd), .int .i64 0]) ∧ SDone B lab w w' sb (mgrowP P i k) := by
  have ht := h.mm i hi
  obtain ⟨pb', bb, mn, f, f0, hta, l1, l2, l3, l4⟩ := ht.ex
  obtain rfl : pb' = pb := by rw [hF] at f0; injection f0 with f0; injection f0 with f0; injection f0 with f0; exact f0.symm
  refine (M19.grow_is k hta ht.hp hk ht.h3 ht.h4).mono ?_
  rintro e w' ⟨rfl, b2, hm, hl, hkk⟩
  exact ⟨rfl, h.chgM { P.M i with pg := M19.gwP (P.M i).pg k (P.M i).mx (P.M i).bd } hi hF hta l1 l2 l3 l4 hm hkk hl hB (M19.gwP_le ht.hp) ht.h3 ht.h4⟩
theorem r_setG (a : Int) (x : V3) (hx : VOk x) (h : RAt B lab w sb P v) (hP : P.Le 200) :
    Calls Tryz.prog 110 #[.pointer (some ⟨sb, 0, none⟩), .int .i64 a, .agg #[.int .u8 x.t, .int .u64 x.lo, .int .u64 x.hi]] w fun e w' => e = .returned (.int .i64 (setGE P a x)) ∧ RDone B lab w w' sb (setGP P a x) := by
  have hn : P.ng ≤ 65536 := by have := hP.g; omega
  cases hi : isIn a P.ng with
  | false =>
    refine (rsetg_none a x h.ls.obj h.ls.g hn (isIn_not hi)).mono ?_
    rintro e w' ⟨rfl, hk⟩
    rw [setGE, setGP, if_neg (by simp [hi]), if_neg (by simp [hi])]
    exact ⟨rfl, h.done0 hk⟩
  | true =>
    obtain ⟨k, rfl, hk⟩ := isIn_nat hi
    have hgl := h.st.gl k hk
    have e1 : ((k : Int)).toNat = k := by omega
    rw [setGE, setGP, if_pos hi, e1]
    cases hg : globB (P.G k).t x with
    | false =>
      refine (rsetg_err k _ x hx h.ls.obj h.ls.g hn hk hgl.f0 hg).mono ?_
      rintro e w' ⟨rfl, hk⟩
      rw [if_neg (by simp), if_neg (by simp)]
      exact ⟨rfl, h.done0 hk⟩
    | true =>
      refine (rsetg_ok k _ x hx h.ls.obj h.ls.g hn hk hgl.f0 hg).mono ?_
      rintro e w' ⟨rfl, hbk, ho, hkk⟩
      rw [if_pos rfl, if_pos ⟨hi, rfl⟩]
      exact ⟨rfl, h.setG _ hbk ho hkk (fun _ _ => GlF.setG hx _ h.st.gl)⟩
theorem r_drope (a : Int) (h : RAt B lab w sb P v) (hP : P.Le 200) :
    Calls Tryz.prog 111 #[.pointer (some ⟨sb, 0, none⟩), .int .u8 1, .int .i64 a] w fun e w' => e = .returned (.int .i64 (dropR P.ne a)) ∧ RDone B lab w w' sb (dropEP P a) := by
  have hn : P.ne ≤ 65536 := by have := hP.e; omega
  cases hi : isIn a P.ne with
  | false =>
    refine (rdropelem_out a h.ls.obj h.ls.e hn (isIn_not hi)).mono ?_
    rintro e w' ⟨rfl, rfl⟩
    rw [dropR, dropEP, if_neg (by simp [hi]), if_neg (by simp [hi])]
    exact ⟨rfl, h.done0 (Kept.refl _ _)⟩
  | true =>
    obtain ⟨k, rfl, hk⟩ := isIn_nat hi
    have e1 : ((k : Int)).toNat = k := by omega
    refine (rdropelem_in k h.ls.obj h.ls.e hn hk).mono ?_
    rintro e w' ⟨rfl, hbk, ho, hkk⟩
    rw [dropR, dropEP, if_pos hi, e1, if_pos hi]
    exact ⟨rfl, h.setE _ hbk ho hkk (fun m hS => ElL.drop h.st.el m hS)⟩
theorem r_dropd (a : Int) (h : RAt B lab w sb P v) (hP : P.Le 200) :
    Calls Tryz.prog 111 #[.pointer (some ⟨sb, 0, none⟩), .int .u8 2, .int .i64 a] w fun e w' => e = .returned (.int .i64 (dropR P.nd a)) ∧ RDone B lab w w' sb (P) := by
  have hn : P.nd ≤ 65536 := by have := hP.d; omega
  cases hi : isIn a P.nd with
  | false =>
    refine (rdropdata_out a h.ls.obj h.ls.d hn (isIn_not hi)).mono ?_
    rintro e w' ⟨rfl, rfl⟩
    rw [dropR, if_neg (by simp [hi])]
    exact ⟨rfl, h.done0 (Kept.refl _ _)⟩
  | true =>
    obtain ⟨k, rfl, hk⟩ := isIn_nat hi
    have e1 : ((k : Int)).toNat = k := by omega
    refine (rdropdata_in k h.ls.obj h.ls.d hn hk).mono ?_
    rintro e w' ⟨rfl, hbk, ho, hkk⟩
    rw [dropR, if_pos hi]
    exact ⟨rfl, h.setD hbk ho hkk (fun m hS => DtL.drop h.st.dt m hS)⟩
theorem r_tset {i tb : Nat} (k : Nat) (x : V3) (hk : k ≤ 4294967295) (hx : VOk x) (h : RAt B lab w sb P v) (hi : i < P.nt) (hF : v.T i = .pointer (some ⟨tb, 0, none⟩)) :
    Calls Tryz.prog 113 #[.pointer (some ⟨tb, 0, none⟩), .int .u32 (k : Int), .agg #[.int .u8 x.t, .int .u64 x.lo, .int .u64 x.hi], .int .u32 1] w fun e w' => e = .returned (.int .i64 ((P.T i).fillE k 1 x)) ∧ RDone B lab w w' sb (tsetP P i k x) ∧ Kept (fun b => lab b = 4 * i + 4) w w' := by
  have ht := h.tb i hi
  obtain ⟨tb', mn, lt, f0, hta, l1, l2⟩ := ht.ex
  obtain rfl : tb' = tb := by rw [hF] at f0; injection f0 with f0; injection f0 with f0; injection f0 with f0; exact f0.symm
  refine (T20.rfill_is k 1 x hta ht.hn ht.hel hk (by omega)).mono ?_
  rintro e w' ⟨rfl, hm, hkk⟩
  exact ⟨rfl, h.chgT { P.T i with f := (P.T i).fillF k 1 x } hi hF hta l1 l2 hm (hkk.mono (fun _ e => .inr e)) (.inl rfl) ht.hn ht.hel ht.h3 ht.h4 (fillF_ok hx ht.ok), hkk.mono (fun b e => by first | exact l2 b e | exact (by rcases e with e | e; exact e ▸ l1; exact l2 b e))⟩
theorem r_tgrow {i tb : Nat} (k : Nat) (x : V3) (hk : k ≤ 4294967295) (hx : VOk x) (h : RAt B lab w sb P v) (hB : B ≤ w.heap.size) (hi : i < P.nt) (hF : v.T i = .pointer (some ⟨tb, 0, none⟩)) :
    Calls Tryz.prog 115 #[.pointer (some ⟨tb, 0, none⟩), .int .u32 (k : Int), .agg #[.int .u8 x.t, .int .u64 x.lo, .int .u64 x.hi]] w fun e w' => e = .returned (.tuple #[.int .u32 ((P.T i).growV k x), .int .i64 ((P.T i).growE x)]) ∧ RDone B lab w w' sb (tgrowP P i k x) ∧ Kept (fun b => lab b = 4 * i + 4) w w' := by
  have ht := h.tb i hi
  obtain ⟨tb', mn, lt, f0, hta, l1, l2⟩ := ht.ex
  obtain rfl : tb' = tb := by rw [hF] at f0; injection f0 with f0; injection f0 with f0; injection f0 with f0; exact f0.symm
  refine (T20.rgrow_is k x hta ht.hn ht.hel ht.h3 ht.h4 hB hk).mono ?_
  rintro e w' ⟨rfl, lj, hm, hkk, hl⟩
  exact ⟨rfl, h.chgT { P.T i with n := (P.T i).growN k x, f := afterV (P.T i).n (P.T i).f (fun _ => x) } hi hF hta l1 l2 hm hkk hl (growN_le ht.hn) ht.hel ht.h3 ht.h4 (growF_ok hx ht.ok), hkk.mono (fun b e => by first | exact l2 b e | exact (by rcases e with e | e; exact e ▸ l1; exact l2 b e))⟩
theorem r_mgrow {i pb : Nat} (k : Nat) (hk : k ≤ 4294967295) (h : RAt B lab w sb P v) (hB : B ≤ w.heap.size) (hi : i < P.nm) (hF : v.M i = .pointer (some ⟨pb, 0, none⟩)) :
    Calls Tryz.prog 117 #[.pointer (some ⟨pb, 0, none⟩), .int .u32 (k : Int)] w fun e w' => e = .returned (.int .u32 (M19.gwV (P.M i).pg k (P.M i).mx (P.M i).bd)) ∧ RDone B lab w w' sb (mgrowP P i k) ∧ Kept (fun b => lab b = 4 * i + 6) w w' := by
  have ht := h.mm i hi
  obtain ⟨pb', mn, lv, f, f0, hta, l1, l2⟩ := ht.ex
  obtain rfl : pb' = pb := by rw [hF] at f0; injection f0 with f0; injection f0 with f0; injection f0 with f0; exact f0.symm
  refine (M19.rgrow_is k hta ht.hp hB hk ht.h3 ht.h4).mono ?_
  rintro e w' ⟨rfl, lj, hm, hkk, hl⟩
  exact ⟨rfl, h.chgM { P.M i with pg := M19.gwP (P.M i).pg k (P.M i).mx (P.M i).bd } hi hF hta l1 l2 hm hkk hl (M19.gwP_le ht.hp) ht.h3 ht.h4, hkk.mono (fun b e => by rcases e with e | e; exact e ▸ l1; exact l2 b e)⟩
end
end Go.Proofs.YtlnkdnmeikpckaaGreat
namespace Go.Proofs.YtlnkdnmeikpckaaGreat
open Go.RowKit
set_option maxRecDepth 100000
def changeP (P : PSt) (d : Int) (x : ActP) : PSt :=
  if d = 7 then setGP P x.a x.x else if d = 8 then dropEP P x.a else if d = 9 then P else if d = 10 then (if isIn x.a P.nt = true then tsetP P x.a.toNat x.n.toNat x.x else P)
  else if d = 11 then (if isIn x.a P.nt = true then tgrowP P x.a.toNat (x.n.toNat % 50) x.x else P) else if d = 12 then (if isIn x.a P.nm = true then mgrowP P x.a.toNat (x.n.toNat % 2) else P) else P
section
variable {w0 w : World} {sb rb : Nat} {lab : Nat → Nat} {P : PSt} {v u : SV}
set_option maxRecDepth 100000 in
set_option maxHeartbeats 6400000 in
theorem change_7 (x : ActP) (hx : ActOk w0 x) (hs : SAt w0.heap.size lab w sb P v) (hr : RAt w0.heap.size lab w rb P u) (hb : Bas w0 lab w) (hP : P.Le 200) :
    Calls Tryz.prog 77 #[.pointer (some ⟨sb, 0, none⟩), .pointer (some ⟨rb, 0, none⟩), .agg (x.cells 7)] w fun e w' => e = .returned (.bool true) ∧ BDone w0.heap.size lab w w' sb rb (setGP P x.a x.x) (setGP P x.a x.x) := by
  have hka : Kept S0 w (w.alloc (.cells (x.cells 7) 79)) := (Kept.refl S0 w).alloc _
  have HBX := Lib.hid (Blk.new w 79 (x.cells 7))
  have HS := Lib.hid (hs.fresh hka)
  have HR := Lib.hid (hr.fresh hka)
  have HB := Lib.hid (hb.fresh hka)
  have HM := Lib.hid (lab0_mv (lab := lab) hka S0)
  have HX := Lib.hid hx
  have HL := Lib.hid (lab0_new (lab := lab) (Nat.le_refl w.heap.size))
  clear hx hs hr hb hka
  have c0 : (w.alloc (.cells (x.cells 7) 79)).cell? ⟨w.heap.size, 0, none⟩ = some (.int .i64 7) := HBX.out.cell 0
  go_enter Tryz.func77, Tryz.ntmps77
  go_wp2_with fail
  have hkd : Mv lab (lab0 lab w) S0 w (w.alloc (.cells (x.cells 7) 79)).drew := ⟨HM.out.k.drew, HM.out.l⟩
  have HBX1 := Lib.hid ((Kept.refl S0 _).drew.blk HBX.out (fun x => x))
  have HS1 := Lib.hid (HS.out.kept0 ((Kept.refl S0 _).drew))
  have HR1 := Lib.hid (HR.out.kept0 ((Kept.refl S0 _).drew))
  have HM1 := Lib.hid hkd
  clear c0 HBX HS HR HM hkd
  generalize w.heap.size = bx at *
  generalize hlg : lab0 lab w = lg at *
  clear hlg
  refine wp_region_R (fun w' => w'.cell? ⟨bx, 1, none⟩ = some (.int .i64 x.a) ∧ w'.cell? ⟨bx, 18, none⟩ = some (.int .u8 x.x.t) ∧ w'.cell? ⟨bx, 19, none⟩ = some (.int .u64 x.x.lo) ∧ w'.cell? ⟨bx, 20, none⟩ = some (.int .u64 x.x.hi)) [] (by kernel_rfl) ?_
  generalize (w.alloc (.cells (x.cells 7) 79)).drew = w1 at *
  have hS : w1.cell? ⟨bx, 1, none⟩ = some (.int .i64 x.a) ∧ w1.cell? ⟨bx, 18, none⟩ = some (.int .u8 x.x.t) ∧ w1.cell? ⟨bx, 19, none⟩ = some (.int .u64 x.x.lo) ∧ w1.cell? ⟨bx, 20, none⟩ = some (.int .u64 x.x.hi) := ⟨HBX1.out.cell 1, HBX1.out.cell 18, HBX1.out.cell 19, HBX1.out.cell 20⟩
  (first | (refine tkR 0 (v := ?_) rfl hS ⟨by rfl, ?_⟩ ?_; rotate_left; intro w h; (try dsimp only at h); first | (go_simp; done) | (go_simp; with_reducible rfl)) | refine skR 0 rfl (fun _ => hS) (by rfl) ?_); simp only [zq1, zq2, Act.put, zq4, zq5, zq6]
  (first | (refine tkR 1 (v := ?_) rfl hS ⟨by rfl, ?_⟩ ?_; rotate_left; intro w h; (try dsimp only at h); first | (go_simp; done) | (go_simp; with_reducible rfl)) | refine skR 1 rfl (fun _ => hS) (by rfl) ?_); simp only [zq1, zq2, zq3, Act.put, zq4, zq5, zq6]
  (first | (refine tkR 2 (v := ?_) rfl hS ⟨by rfl, ?_⟩ ?_; rotate_left; intro w h; (try dsimp only at h); first | (go_simp; done) | (go_simp; with_reducible rfl)) | refine skR 2 rfl (fun _ => hS) (by rfl) ?_); simp only [zq1, zq2, zq3, Act.put, zq4, zq5, zq6]
  (first | (refine tkR 3 (v := ?_) rfl hS ⟨by rfl, ?_⟩ ?_; rotate_left; intro w h; (try dsimp only at h); first | (go_simp; done) | (go_simp; with_reducible rfl)) | refine skR 3 rfl (fun _ => hS) (by rfl) ?_); simp only [zq1, zq2, zq3, Act.put, zq4, zq5, zq6]
  (first | (refine tkR 4 (v := ?_) rfl hS ⟨by rfl, ?_⟩ ?_; rotate_left; intro w h; (try dsimp only at h); first | (go_simp; done) | (go_simp; with_reducible rfl)) | refine skR 4 rfl (fun _ => hS) (by rfl) ?_); simp only [zq1, zq2, zq3, Act.put, zq4, zq5, zq6]
  (first | (refine tkR 6 (v := ?_) rfl hS ⟨by rfl, ?_⟩ ?_; rotate_left; intro w h; (try dsimp only at h); first | (go_simp; done) | (go_simp; with_reducible rfl)) | refine skR 6 rfl (fun _ => hS) (by rfl) ?_); simp only [zq1, zq2, zq3, Act.put, zq4, zq5, zq6]
  (first | (refine tkR 7 (v := ?_) rfl hS ⟨by rfl, ?_⟩ ?_; rotate_left; intro w h; (try dsimp only at h); first | (go_simp; done) | (go_simp; with_reducible rfl)) | refine skR 7 rfl (fun _ => hS) (by rfl) ?_); simp only [zq1, zq2, zq3, Act.put, zq4, zq5, zq6]
  (first | (refine tkR 8 (v := ?_) rfl hS ⟨by rfl, ?_⟩ ?_; rotate_left; intro w h; (try dsimp only at h); first | (go_simp; done) | (go_simp; with_reducible rfl)) | refine skR 8 rfl (fun _ => hS) (by rfl) ?_); simp only [zq1, zq2, zq3, Act.put, zq4, zq5, zq6]
  (first | (refine tkR 9 (v := ?_) rfl hS ⟨by rfl, ?_⟩ ?_; rotate_left; intro w h; (try dsimp only at h); first | (go_simp; done) | (go_simp; with_reducible rfl)) | refine skR 9 rfl (fun _ => hS) (by rfl) ?_); simp only [zq1, zq2, zq3, Act.put, zq4, zq5, zq6]
  (first | (refine tkR 10 (v := ?_) rfl hS ⟨by rfl, ?_⟩ ?_; rotate_left; intro w h; (try dsimp only at h); first | (go_simp; done) | (go_simp; with_reducible rfl)) | refine skR 10 rfl (fun _ => hS) (by rfl) ?_); simp only [zq1, zq2, zq3, Act.put, zq4, zq5, zq6]
  refine wpAnyR_one 5 rfl (by kernel_rfl) (fun K hK => ?_)
  go_simp
  go_at_call 109
  refine (s_setG x.a x.x HX.out.v HS1.out hP).mono ?_
  rintro e w2 ⟨rfl, lab2, v2, hs2, m2⟩
  have hlx : lg bx = 0 := HL.out
  have HS2 := Lib.hid hs2
  have HR2 := Lib.hid (HR1.out.move m2 (fun _ _ x => x))
  have HM2 := Lib.hid m2
  have HLB := Lib.hid ((m2.l bx HBX1.out.lt).trans hlx)
  have HBX2 := Lib.hid (m2.k.blk HBX1.out (fun e => by have e' : lg bx % 2 = 1 := e; omega))
  have hS2 : w2.cell? ⟨bx, 1, none⟩ = some (.int .i64 x.a) ∧ w2.cell? ⟨bx, 18, none⟩ = some (.int .u8 x.x.t) ∧ w2.cell? ⟨bx, 19, none⟩ = some (.int .u64 x.x.lo) ∧ w2.cell? ⟨bx, 20, none⟩ = some (.int .u64 x.x.hi) := ⟨HBX2.out.cell 1, HBX2.out.cell 18, HBX2.out.cell 19, HBX2.out.cell 20⟩
  refine hK.out _ _ (fun _ => hS2) ?_
  clear hK K hS hs2 m2 hlx
  refine wpAnyR_one 11 rfl (by kernel_rfl) (fun K hK => ?_)
  go_simp
  go_at_call 110
  refine (r_setG x.a x.x HX.out.v HR2.out hP).mono ?_
  rintro e w3 ⟨rfl, lab3, u3, hr3, m3⟩
  have hbx3 := m3.k.blk HBX2.out (fun e => e.1 HLB.out)
  have hS3 : w3.cell? ⟨bx, 1, none⟩ = some (.int .i64 x.a) ∧ w3.cell? ⟨bx, 18, none⟩ = some (.int .u8 x.x.t) ∧ w3.cell? ⟨bx, 19, none⟩ = some (.int .u64 x.x.lo) ∧ w3.cell? ⟨bx, 20, none⟩ = some (.int .u64 x.x.hi) := ⟨hbx3.cell 1, hbx3.cell 18, hbx3.cell 19, hbx3.cell 20⟩
  have HF := Lib.hid (show BDone w0.heap.size lab w w3 sb rb (setGP P x.a x.x) (setGP P x.a x.x) from ⟨lab3, v2, u3, HS2.out.move m3 (fun _ _ x => x), hr3, Mv.three HM1.out HM2.out m3⟩)
  refine hK.out _ _ (fun _ => hS3) ?_
  clear hK K hS2 hr3 m3 hbx3
  (first | (refine tkR 12 (v := ?_) rfl hS3 ⟨by rfl, ?_⟩ ?_; rotate_left; intro w h; (try dsimp only at h); first | (go_simp; done) | (go_simp; with_reducible rfl)) | refine skR 12 rfl (fun _ => hS3) (by rfl) ?_); simp only [zq1, zq2, zq3, Act.put, zq4, zq5, zq6]
  (first | (refine tkR 13 (v := ?_) rfl hS3 ⟨by rfl, ?_⟩ ?_; rotate_left; intro w h; (try dsimp only at h); first | (go_simp; done) | (go_simp; with_reducible rfl)) | refine skR 13 rfl (fun _ => hS3) (by rfl) ?_); simp only [zq1, zq2, zq3, Act.put, zq4, zq5, zq6]
  clear hS3
  refine wpAnyR_done (by kernel_rfl) ?_ _
  go_wp2_with fail
  go_ret
  exact ⟨rfl, HF.out⟩
set_option maxRecDepth 100000 in
set_option maxHeartbeats 6400000 in
theorem change_8 (x : ActP) (hx : ActOk w0 x) (hs : SAt w0.heap.size lab w sb P v) (hr : RAt w0.heap.size lab w rb P u) (hb : Bas w0 lab w) (hP : P.Le 200) :
    Calls Tryz.prog 77 #[.pointer (some ⟨sb, 0, none⟩), .pointer (some ⟨rb, 0, none⟩), .agg (x.cells 8)] w fun e w' => e = .returned (.bool true) ∧ BDone w0.heap.size lab w w' sb rb (dropEP P x.a) (dropEP P x.a) := by
  have hka : Kept S0 w (w.alloc (.cells (x.cells 8) 79)) := (Kept.refl S0 w).alloc _
  have HBX := Lib.hid (Blk.new w 79 (x.cells 8))
  have HS := Lib.hid (hs.fresh hka)
  have HR := Lib.hid (hr.fresh hka)
  have HB := Lib.hid (hb.fresh hka)
  have HM := Lib.hid (lab0_mv (lab := lab) hka S0)
  have HX := Lib.hid hx
  have HL := Lib.hid (lab0_new (lab := lab) (Nat.le_refl w.heap.size))
  clear hx hs hr hb hka
  have c0 : (w.alloc (.cells (x.cells 8) 79)).cell? ⟨w.heap.size, 0, none⟩ = some (.int .i64 8) := HBX.out.cell 0
  go_enter Tryz.func77, Tryz.ntmps77
  go_wp2_with fail
  have hkd : Mv lab (lab0 lab w) S0 w (w.alloc (.cells (x.cells 8) 79)).drew := ⟨HM.out.k.drew, HM.out.l⟩
  have HBX1 := Lib.hid ((Kept.refl S0 _).drew.blk HBX.out (fun x => x))
  have HS1 := Lib.hid (HS.out.kept0 ((Kept.refl S0 _).drew))
  have HR1 := Lib.hid (HR.out.kept0 ((Kept.refl S0 _).drew))
  have HM1 := Lib.hid hkd
  clear c0 HBX HS HR HM hkd
  generalize w.heap.size = bx at *
  generalize hlg : lab0 lab w = lg at *
  clear hlg
  refine wp_region_R (fun w' => w'.cell? ⟨bx, 1, none⟩ = some (.int .i64 x.a)) [] (by kernel_rfl) ?_
  generalize (w.alloc (.cells (x.cells 8) 79)).drew = w1 at *
  have hS : w1.cell? ⟨bx, 1, none⟩ = some (.int .i64 x.a) := HBX1.out.cell 1
  (first | (refine tkR 0 (v := ?_) rfl hS ⟨by rfl, ?_⟩ ?_; rotate_left; intro w h; (try dsimp only at h); first | (go_simp; done) | (go_simp; with_reducible rfl)) | refine skR 0 rfl (fun _ => hS) (by rfl) ?_); simp only [zq1, zq2, Act.put, zq4, zq5, zq6]
  (first | (refine tkR 1 (v := ?_) rfl hS ⟨by rfl, ?_⟩ ?_; rotate_left; intro w h; (try dsimp only at h); first | (go_simp; done) | (go_simp; with_reducible rfl)) | refine skR 1 rfl (fun _ => hS) (by rfl) ?_); simp only [zq1, zq2, zq3, Act.put, zq4, zq5, zq6]
  (first | (refine tkR 2 (v := ?_) rfl hS ⟨by rfl, ?_⟩ ?_; rotate_left; intro w h; (try dsimp only at h); first | (go_simp; done) | (go_simp; with_reducible rfl)) | refine skR 2 rfl (fun _ => hS) (by rfl) ?_); simp only [zq1, zq2, zq3, Act.put, zq4, zq5, zq6]
  (first | (refine tkR 4 (v := ?_) rfl hS ⟨by rfl, ?_⟩ ?_; rotate_left; intro w h; (try dsimp only at h); first | (go_simp; done) | (go_simp; with_reducible rfl)) | refine skR 4 rfl (fun _ => hS) (by rfl) ?_); simp only [zq1, zq2, zq3, Act.put, zq4, zq5, zq6]
  (first | (refine tkR 5 (v := ?_) rfl hS ⟨by rfl, ?_⟩ ?_; rotate_left; intro w h; (try dsimp only at h); first | (go_simp; done) | (go_simp; with_reducible rfl)) | refine skR 5 rfl (fun _ => hS) (by rfl) ?_); simp only [zq1, zq2, zq3, Act.put, zq4, zq5, zq6]
  (first | (refine tkR 6 (v := ?_) rfl hS ⟨by rfl, ?_⟩ ?_; rotate_left; intro w h; (try dsimp only at h); first | (go_simp; done) | (go_simp; with_reducible rfl)) | refine skR 6 rfl (fun _ => hS) (by rfl) ?_); simp only [zq1, zq2, zq3, Act.put, zq4, zq5, zq6]
  refine wpAnyR_one 3 rfl (by kernel_rfl) (fun K hK => ?_)
  go_simp
  go_at_call 28
  refine (s_drope x.a HS1.out hP).mono ?_
  rintro e w2 ⟨rfl, lab2, v2, hs2, m2⟩
  have hlx : lg bx = 0 := HL.out
  have HS2 := Lib.hid hs2
  have HR2 := Lib.hid (HR1.out.move m2 (fun _ _ x => x))
  have HM2 := Lib.hid m2
  have HLB := Lib.hid ((m2.l bx HBX1.out.lt).trans hlx)
  have HBX2 := Lib.hid (m2.k.blk HBX1.out (fun e => by have e' : lg bx % 2 = 1 := e; omega))
  have hS2 : w2.cell? ⟨bx, 1, none⟩ = some (.int .i64 x.a) := HBX2.out.cell 1
  refine hK.out _ _ (fun _ => hS2) ?_
  clear hK K hS hs2 m2 hlx
  refine wpAnyR_one 7 rfl (by kernel_rfl) (fun K hK => ?_)
  go_simp
  go_at_call 111
  refine (r_drope x.a HR2.out hP).mono ?_
  rintro e w3 ⟨rfl, lab3, u3, hr3, m3⟩
  have hbx3 := m3.k.blk HBX2.out (fun e => e.1 HLB.out)
  have hS3 : w3.cell? ⟨bx, 1, none⟩ = some (.int .i64 x.a) := hbx3.cell 1
  have HF := Lib.hid (show BDone w0.heap.size lab w w3 sb rb (dropEP P x.a) (dropEP P x.a) from ⟨lab3, v2, u3, HS2.out.move m3 (fun _ _ x => x), hr3, Mv.three HM1.out HM2.out m3⟩)
  refine hK.out _ _ (fun _ => hS3) ?_
  clear hK K hS2 hr3 m3 hbx3
  (first | (refine tkR 8 (v := ?_) rfl hS3 ⟨by rfl, ?_⟩ ?_; rotate_left; intro w h; (try dsimp only at h); first | (go_simp; done) | (go_simp; with_reducible rfl)) | refine skR 8 rfl (fun _ => hS3) (by rfl) ?_); simp only [zq1, zq2, zq3, Act.put, zq4, zq5, zq6]
  (first | (refine tkR 9 (v := ?_) rfl hS3 ⟨by rfl, ?_⟩ ?_; rotate_left; intro w h; (try dsimp only at h); first | (go_simp; done) | (go_simp; with_reducible rfl)) | refine skR 9 rfl (fun _ => hS3) (by rfl) ?_); simp only [zq1, zq2, zq3, Act.put, zq4, zq5, zq6]
  clear hS3
  refine wpAnyR_done (by kernel_rfl) ?_ _
  go_wp2_with fail
  go_ret
  exact ⟨rfl, HF.out⟩
set_option maxRecDepth 100000 in
set_option maxHeartbeats 6400000 in
theorem change_9 (x : ActP) (hx : ActOk w0 x) (hs : SAt w0.heap.size lab w sb P v) (hr : RAt w0.heap.size lab w rb P u) (hb : Bas w0 lab w) (hP : P.Le 200) :
    Calls Tryz.prog 77 #[.pointer (some ⟨sb, 0, none⟩), .pointer (some ⟨rb, 0, none⟩), .agg (x.cells 9)] w fun e w' => e = .returned (.bool true) ∧ BDone w0.heap.size lab w w' sb rb (P) (P) := by
  have hka : Kept S0 w (w.alloc (.cells (x.cells 9) 79)) := (Kept.refl S0 w).alloc _
  have HBX := Lib.hid (Blk.new w 79 (x.cells 9))
  have HS := Lib.hid (hs.fresh hka)
  have HR := Lib.hid (hr.fresh hka)
  have HB := Lib.hid (hb.fresh hka)
  have HM := Lib.hid (lab0_mv (lab := lab) hka S0)
  have HX := Lib.hid hx
  have HL := Lib.hid (lab0_new (lab := lab) (Nat.le_refl w.heap.size))
  clear hx hs hr hb hka
  have c0 : (w.alloc (.cells (x.cells 9) 79)).cell? ⟨w.heap.size, 0, none⟩ = some (.int .i64 9) := HBX.out.cell 0
  go_enter Tryz.func77, Tryz.ntmps77
  go_wp2_with fail
  have hkd : Mv lab (lab0 lab w) S0 w (w.alloc (.cells (x.cells 9) 79)).drew := ⟨HM.out.k.drew, HM.out.l⟩
  have HBX1 := Lib.hid ((Kept.refl S0 _).drew.blk HBX.out (fun x => x))
  have HS1 := Lib.hid (HS.out.kept0 ((Kept.refl S0 _).drew))
  have HR1 := Lib.hid (HR.out.kept0 ((Kept.refl S0 _).drew))
  have HM1 := Lib.hid hkd
  clear c0 HBX HS HR HM hkd
  generalize w.heap.size = bx at *
  generalize hlg : lab0 lab w = lg at *
  clear hlg
  refine wp_region_R (fun w' => w'.cell? ⟨bx, 1, none⟩ = some (.int .i64 x.a)) [] (by kernel_rfl) ?_
  generalize (w.alloc (.cells (x.cells 9) 79)).drew = w1 at *
  have hS : w1.cell? ⟨bx, 1, none⟩ = some (.int .i64 x.a) := HBX1.out.cell 1
  (first | (refine tkR 0 (v := ?_) rfl hS ⟨by rfl, ?_⟩ ?_; rotate_left; intro w h; (try dsimp only at h); first | (go_simp; done) | (go_simp; with_reducible rfl)) | refine skR 0 rfl (fun _ => hS) (by rfl) ?_); simp only [zq1, zq2, Act.put, zq4, zq5, zq6]
  (first | (refine tkR 1 (v := ?_) rfl hS ⟨by rfl, ?_⟩ ?_; rotate_left; intro w h; (try dsimp only at h); first | (go_simp; done) | (go_simp; with_reducible rfl)) | refine skR 1 rfl (fun _ => hS) (by rfl) ?_); simp only [zq1, zq2, zq3, Act.put, zq4, zq5, zq6]
  (first | (refine tkR 2 (v := ?_) rfl hS ⟨by rfl, ?_⟩ ?_; rotate_left; intro w h; (try dsimp only at h); first | (go_simp; done) | (go_simp; with_reducible rfl)) | refine skR 2 rfl (fun _ => hS) (by rfl) ?_); simp only [zq1, zq2, zq3, Act.put, zq4, zq5, zq6]
  (first | (refine tkR 4 (v := ?_) rfl hS ⟨by rfl, ?_⟩ ?_; rotate_left; intro w h; (try dsimp only at h); first | (go_simp; done) | (go_simp; with_reducible rfl)) | refine skR 4 rfl (fun _ => hS) (by rfl) ?_); simp only [zq1, zq2, zq3, Act.put, zq4, zq5, zq6]
  (first | (refine tkR 5 (v := ?_) rfl hS ⟨by rfl, ?_⟩ ?_; rotate_left; intro w h; (try dsimp only at h); first | (go_simp; done) | (go_simp; with_reducible rfl)) | refine skR 5 rfl (fun _ => hS) (by rfl) ?_); simp only [zq1, zq2, zq3, Act.put, zq4, zq5, zq6]
  (first | (refine tkR 6 (v := ?_) rfl hS ⟨by rfl, ?_⟩ ?_; rotate_left; intro w h; (try dsimp only at h); first | (go_simp; done) | (go_simp; with_reducible rfl)) | refine skR 6 rfl (fun _ => hS) (by rfl) ?_); simp only [zq1, zq2, zq3, Act.put, zq4, zq5, zq6]
  refine wpAnyR_one 3 rfl (by kernel_rfl) (fun K hK => ?_)
  go_simp
  go_at_call 28
  refine (s_dropd x.a HS1.out hP).mono ?_
  rintro e w2 ⟨rfl, lab2, v2, hs2, m2⟩
  have hlx : lg bx = 0 := HL.out
  have HS2 := Lib.hid hs2
  have HR2 := Lib.hid (HR1.out.move m2 (fun _ _ x => x))
  have HM2 := Lib.hid m2
  have HLB := Lib.hid ((m2.l bx HBX1.out.lt).trans hlx)
  have HBX2 := Lib.hid (m2.k.blk HBX1.out (fun e => by have e' : lg bx % 2 = 1 := e; omega))
  have hS2 : w2.cell? ⟨bx, 1, none⟩ = some (.int .i64 x.a) := HBX2.out.cell 1
  refine hK.out _ _ (fun _ => hS2) ?_
  clear hK K hS hs2 m2 hlx
  refine wpAnyR_one 7 rfl (by kernel_rfl) (fun K hK => ?_)
  go_simp
  go_at_call 111
  refine (r_dropd x.a HR2.out hP).mono ?_
  rintro e w3 ⟨rfl, lab3, u3, hr3, m3⟩
  have hbx3 := m3.k.blk HBX2.out (fun e => e.1 HLB.out)
  have hS3 : w3.cell? ⟨bx, 1, none⟩ = some (.int .i64 x.a) := hbx3.cell 1
  have HF := Lib.hid (show BDone w0.heap.size lab w w3 sb rb (P) (P) from ⟨lab3, v2, u3, HS2.out.move m3 (fun _ _ x => x), hr3, Mv.three HM1.out HM2.out m3⟩)
  refine hK.out _ _ (fun _ => hS3) ?_
  clear hK K hS2 hr3 m3 hbx3
  (first | (refine tkR 8 (v := ?_) rfl hS3 ⟨by rfl, ?_⟩ ?_; rotate_left; intro w h; (try dsimp only at h); first | (go_simp; done) | (go_simp; with_reducible rfl)) | refine skR 8 rfl (fun _ => hS3) (by rfl) ?_); simp only [zq1, zq2, zq3, Act.put, zq4, zq5, zq6]
  (first | (refine tkR 9 (v := ?_) rfl hS3 ⟨by rfl, ?_⟩ ?_; rotate_left; intro w h; (try dsimp only at h); first | (go_simp; done) | (go_simp; with_reducible rfl)) | refine skR 9 rfl (fun _ => hS3) (by rfl) ?_); simp only [zq1, zq2, zq3, Act.put, zq4, zq5, zq6]
  clear hS3
  refine wpAnyR_done (by kernel_rfl) ?_ _
  go_wp2_with fail
  go_ret
  exact ⟨rfl, HF.out⟩
end
end Go.Proofs.YtlnkdnmeikpckaaGreat
