/- A table and the document's one, alike; the contract of Type. No condition. -/
import Derived.Test.YtpeekldngelkkaaRefD
import Derived.Test.YtpeekldngelkkaaTabE
import Derived.Test.YtpeekldngelkkaaTabH
import Derived.Test.YtpeekldngelkkaaHeldR
namespace Go.Proofs.Ytpeekldngelkkaa
open Go.RowKit

theorem keep0 {w w' : World} {p : Addr} {v : Value} (hk : Kept S0 w w') (h : w.cell? p = some v) : w'.cell? p = some v := (hk.cell (World.block_lt_of_cell? _ _ h) (fun x => x)).trans h

/-- What a table is: its type but its least, how many there are, which. -/
structure PT where
  el : Int
  mx : Int
  bd : Bool
  n : Nat
  f : Nat → V3

structure PairAt (w : World) (B tp rp : Nat) (mn : Int) (lt lr : Value) (s : PT) : Prop where
  tab : TabAt w tp B s.n s.el mn s.mx s.bd lt s.f
  ref : RefAt w rp B s.n s.el mn s.mx s.bd lr s.f
  hn : s.n ≤ 16384
  hel : s.el = 112 ∨ s.el = 111
  h3 : 0 ≤ s.mx
  h4 : s.mx ≤ 4294967295
  hB : B ≤ w.heap.size
  dis : ∀ g, lt.ownBlock = some g → lr.ownBlock ≠ some g

/-- The blocks of a pair. -/
def SP (tp rp : Nat) (lt lr : Value) : Nat → Prop := fun i => i = tp ∨ i = rp ∨ lt.ownBlock = some i ∨ lr.ownBlock = some i

structure Stepped (w w' : World) (B tp rp : Nat) (mn : Int) (lt lr : Value) (s : PT) (lt' lr' : Value) (s' : PT) : Prop where
  pair : PairAt w' B tp rp mn lt' lr' s'
  kept : Kept (SP tp rp lt lr) w w'
  own : ∀ g, (lt'.ownBlock = some g ∨ lr'.ownBlock = some g) → (lt.ownBlock = some g ∨ lr.ownBlock = some g) ∨ w.heap.size ≤ g

section
variable {w w1 w2 : World} {B tp rp : Nat} {mn : Int} {lt lr lt' lr' : Value} {s : PT} {n' : Nat} {f' : Nat → V3}

theorem PairAt.ne (h : PairAt w B tp rp mn lt lr s) : tp ≠ rp := Blk.ne_ h.tab.obj h.ref.obj (by decide)
theorem PairAt.lt_rp (h : PairAt w B tp rp mn lt lr s) : lt.ownBlock ≠ some rp := h.tab.own.ne_blk h.ref.obj (by decide)
theorem PairAt.lr_tp (h : PairAt w B tp rp mn lt lr s) : lr.ownBlock ≠ some tp := h.ref.own.ne_blk h.tab.obj (by decide)
theorem PairAt.kept0 (h : PairAt w B tp rp mn lt lr s) (hk : Kept S0 w w1) : PairAt w1 B tp rp mn lt lr s :=
  ⟨h.tab.kept0 hk, h.ref.kept0 hk, h.hn, h.hel, h.h3, h.h4, Nat.le_trans h.hB hk.size, h.dis⟩
theorem PairAt.away {S : Nat → Prop} (h : PairAt w B tp rp mn lt lr s) (hk : Kept S w w1) (hs : ∀ i, S i → ¬ SP tp rp lt lr i) : PairAt w1 B tp rp mn lt lr s :=
  ⟨h.tab.kept hk (fun e => hs _ e (.inl rfl)) (fun _ hg e => hs _ e (.inr (.inr (.inl hg)))), h.ref.kept hk (fun e => hs _ e (.inr (.inl rfl))) (fun _ hg e => hs _ e (.inr (.inr (.inr hg)))), h.hn, h.hel, h.h3, h.h4, Nat.le_trans h.hB hk.size, h.dis⟩
theorem PairAt.low (h : PairAt w B tp rp mn lt lr s) : ∀ i, SP tp rp lt lr i → B ≤ i ∧ i < w.heap.size := fun i hi => by
  rcases hi with rfl | rfl | hi | hi
  · exact ⟨h.tab.lo, h.tab.obj.lt⟩
  · exact ⟨h.ref.lo, h.ref.obj.lt⟩
  · exact h.tab.own.lt _ hi
  · exact h.ref.own.lt _ hi

theorem PairAt.same (h : PairAt w B tp rp mn lt lr s) (hk : Kept S0 w w1) : Stepped w w1 B tp rp mn lt lr s lt lr s :=
  ⟨h.kept0 hk, hk.of0 _, fun _ hg => .inl hg⟩

/-- The document's table stays, where the other one is written. -/
theorem PairAt.ref1 (h : PairAt w B tp rp mn lt lr s) (hk : Kept (ST tp lt) w w1) : RefAt w1 rp B s.n s.el mn s.mx s.bd lr s.f :=
  h.ref.kept hk (fun e => by
    rcases e with e | e
    · exact h.ne e.symm
    · exact h.lt_rp e) (fun g hg e => by
    rcases e with e | e
    · exact h.lr_tp (e ▸ hg)
    · exact h.dis g e hg)

theorem Kept.so_st {tp : Nat} {lv : Value} (h : Kept (SO lv) w w1) : Kept (ST tp lv) w w1 := h.mono (fun _ e => .inr e)

theorem PairAt.step (h : PairAt w B tp rp mn lt lr s) (ht : TabAt w1 tp B n' s.el mn s.mx s.bd lt' f') (hk1 : Kept (ST tp lt) w w1) (hb1 : lt'.ownBlock = lt.ownBlock ∨ ∃ g, lt'.ownBlock = some g ∧ w.heap.size ≤ g)
    (hr : RefAt w2 rp B n' s.el mn s.mx s.bd lr' f') (hk2 : Kept (ST rp lr) w1 w2) (hb2 : lr'.ownBlock = lr.ownBlock ∨ ∃ g, lr'.ownBlock = some g ∧ w1.heap.size ≤ g) (hn : n' ≤ 16384) :
    Stepped w w2 B tp rp mn lt lr s lt' lr' { s with n := n', f := f' } := by
  have hr1 := h.ref1 hk1
  have hlt' : ∀ g, lt'.ownBlock = some g → lt.ownBlock = some g ∨ w.heap.size ≤ g := fun g hg => by
    rcases hb1 with e | ⟨g', e, hl⟩
    · exact .inl (e ▸ hg)
    · rw [e] at hg; cases hg; exact .inr hl
  have hlr' : ∀ g, lr'.ownBlock = some g → lr.ownBlock = some g ∨ w1.heap.size ≤ g := fun g hg => by
    rcases hb2 with e | ⟨g', e, hl⟩
    · exact .inl (e ▸ hg)
    · rw [e] at hg; cases hg; exact .inr hl
  have hltrp : lt'.ownBlock ≠ some rp := ht.own.ne_blk hr1.obj (by decide)
  have hltlr : ∀ g, lt'.ownBlock = some g → lr.ownBlock ≠ some g := fun g hg e => by
    rcases hlt' g hg with h1 | h1
    · exact h.dis g h1 e
    · have := (h.ref.own.lt g e).2; omega
  have ht2 : TabAt w2 tp B n' s.el mn s.mx s.bd lt' f' := ht.kept hk2 (fun e => by
    rcases e with e | e
    · exact h.ne e
    · exact h.lr_tp e) (fun g hg e => by
    rcases e with e | e
    · exact hltrp (e ▸ hg)
    · exact hltlr g hg e)
  refine ⟨⟨ht2, hr, hn, h.hel, h.h3, h.h4, Nat.le_trans h.hB (Nat.le_trans hk1.size hk2.size), fun g hg e => ?_⟩, (hk1.mono (fun i e => ?_)).trans (hk2.mono (fun i e => ?_)), fun g hg => ?_⟩
  · rcases hlr' g e with h1 | h1
    · exact hltlr g hg h1
    · have := (ht.own.lt g hg).2; omega
  · rcases e with e | e
    · exact .inl e
    · exact .inr (.inr (.inl e))
  · rcases e with e | e
    · exact .inr (.inl e)
    · exact .inr (.inr (.inr e))
  · rcases hg with hg | hg
    · exact (hlt' g hg).imp .inl id
    · exact (hlr' g hg).imp .inr (fun h => Nat.le_trans hk1.size h)
end

section
variable {w : World} {tb base N : Nat} {el mn mx : Int} {bd : Bool} {lv : Value} {f : Nat → V3}

set_option maxHeartbeats 1600000 in
theorem type_made (hm : TabAt w tb base N el mn mx bd lv f) (hN : N ≤ 16384) :
    Calls Try.prog 26 #[.pointer (some ⟨tb, 0, none⟩)] w fun e w' => e = .returned (.agg #[.int .u8 el, .int .u32 (N : Int), .int .u32 mx, .bool bd]) ∧ Kept S0 w w' := by
  obtain ⟨A, c, hlv, _, _, _⟩ := hm.own.out
  have hka : Kept S0 w (w.alloc (.cells #[.int .u8 0, .int .u32 0, .int .u32 0, .bool false] 41)) := (Kept.refl S0 w).alloc _
  have hm1 := hm.kept0 hka
  have c0 := hm1.c0
  have c1 := hm1.c1
  have c2 := hm1.c2
  have c3 := hm1.c3
  have c4 := hm1.c4
  have hkb : Kept S0 w ((w.alloc (.cells #[.int .u8 0, .int .u32 0, .int .u32 0, .bool false] 41)).alloc (.cells #[.int .u8 el, .int .u32 mn, .int .u32 mx, .bool bd] 41)) := hka.alloc _
  have HM2 := Lib.hid (hm.kept0 hkb)
  have HL := Lib.hid hlv
  clear hm hm1 hlv
  go_enter Try.func26, Try.ntmps26
  go_wp2_with fail
  refine (off_made _ _ c0).mono ?_
  rintro e w1 ⟨rfl, rfl⟩
  go_wp2_with fail
  have d5 := HM2.out.c5
  rw [HL.out] at d5
  have d0 := HM2.out.c0
  refine (size_made tb _ A N c d0 d5 hN).mono ?_
  rintro e w1 ⟨rfl, rfl⟩
  go_wp2_with fail
  have hB := (Blk.new w 41 #[.int .u8 el, .int .u32 (N : Int), .int .u32 mx, .bool bd]).alloc (.cells #[.int .u8 el, .int .u32 (N : Int), .int .u32 mx, .bool bd] 41)
  have r0 := hB.cell 0
  have r1 := hB.cell 1
  have r2 := hB.cell 2
  have r3 := hB.cell 3
  exact bodyPost_ret (v := .agg #[.int .u8 el, .int .u32 (N : Int), .int .u32 mx, .bool bd]) (by simp [results, Try.results26, go_sem, r0, r1, r2, r3]) rfl ⟨rfl, ((Kept.refl S0 w).alloc _).alloc _⟩
end

set_option maxHeartbeats 3200000 in
set_option maxRecDepth 100000 in
theorem alike_any {w : World} {B tp rp : Nat} {mn : Int} {lt lr : Value} {s : PT} (h : PairAt w B tp rp mn lt lr s) :
    Calls Try.prog 25 #[.pointer (some ⟨tp, 0, none⟩), .pointer (some ⟨rp, 0, none⟩)] w fun e w' => e = .returned (.bool true) ∧ Kept S0 w w' := by
  obtain ⟨el, mx, bd, n, f⟩ := s
  have hN : n ≤ 16384 := h.hn
  have ht : TabAt w tp B n el mn mx bd lt f := h.tab
  have hr : RefAt w rp B n el mn mx bd lr f := h.ref
  clear h
  obtain ⟨A, c, hlr, _, _, hsl⟩ := hr.own.out
  have hka : Kept S0 w (w.alloc (.cells #[.int .u8 el, .int .u32 mn, .int .u32 mx, .bool bd] 41)) := (Kept.refl S0 w).alloc _
  have hkb : Kept S0 w (w.alloc (.cells #[.int .u8 el, .int .u32 (n : Int), .int .u32 mx, .bool bd] 41)) := (Kept.refl S0 w).alloc _
  have hra := hr.kept0 hka
  have c0 := hr.c0
  have c1 := hr.c1
  have c2 := hr.c2
  have c3 := hr.c3
  have d4 := hra.c4
  rw [hlr] at d4
  have un : IntKind.u32.wrap (n : Int) = (n : Int) := IntWalk.u32_in _ (by omega)
  have HT := Lib.hid (ht.kept0 hkb)
  have HR := Lib.hid (hr.kept0 hkb)
  have HSL := Lib.hid (hsl.slb.kept hkb (Nat.le_refl _) (fun _ x => x.elim))
  have HLR := Lib.hid hlr
  clear ht hr hra hsl hlr
  go_enter Try.func25, Try.ntmps25
  go_wp2_with fail
  have hX := Blk.new w 41 #[.int .u8 el, .int .u32 (n : Int), .int .u32 mx, .bool bd]
  have HK := Lib.hid hkb
  clear hka hkb c0 c1 c2 c3 d4
  generalize hxb : w.heap.size = xb at *
  generalize w.alloc (.cells #[.int .u8 el, .int .u32 (n : Int), .int .u32 mx, .bool bd] 41) = w1 at *
  have e4 := HR.out.c4
  rw [HLR.out] at e4
  have hdd := (Kept.refl S0 w1).drew
  have HX2 := Lib.hid (hdd.blk hX (fun x => x))
  have HT2 := Lib.hid (HT.out.drew)
  have HR2 := Lib.hid (HR.out.drew)
  have HK2 := Lib.hid (HK.out.drew)
  have HSL2 := Lib.hid (HSL.out.kept hdd (by have := HK.out.size; omega) (fun _ x => x.elim))
  have hS : w1.drew.cell? ⟨rp, 4, none⟩ = some (.slice A n c) ∧ w1.drew.cell? ⟨xb, 0, none⟩ = some (.int .u8 el) ∧ w1.drew.cell? ⟨xb, 1, none⟩ = some (.int .u32 (n : Int)) ∧ w1.drew.cell? ⟨xb, 2, none⟩ = some (.int .u32 mx) ∧ w1.drew.cell? ⟨xb, 3, none⟩ = some (.bool bd) := ⟨e4, HX2.out.cell 0, HX2.out.cell 1, HX2.out.cell 2, HX2.out.cell 3⟩
  refine wp_region_R (fun w' => w'.cell? ⟨rp, 4, none⟩ = some (.slice A n c) ∧ w'.cell? ⟨xb, 0, none⟩ = some (.int .u8 el) ∧ w'.cell? ⟨xb, 1, none⟩ = some (.int .u32 (n : Int)) ∧ w'.cell? ⟨xb, 2, none⟩ = some (.int .u32 mx) ∧ w'.cell? ⟨xb, 3, none⟩ = some (.bool bd)) [] (by kernel_rfl) ?_
  have hxb2 : xb ≤ w1.drew.heap.size := by rw [← hxb]; exact HK2.out.size
  clear hdd hX e4 HX2 HT HR HK HSL
  generalize w1.drew = w2 at *
  refine wpAnyR_take 0 (v := ?_) rfl (by kernel_rfl) (by kernel_rfl) (by kernel_rfl) (by kernel_rfl) (fun _ _ _ h => h) hS ⟨by rfl, ?_⟩ ?_
  rotate_left; (intro w hSw; (try dsimp only at hSw); first | (go_simp; done) | (go_simp; with_reducible rfl))
  simp only [List.getElem_toArray, List.getElem_cons_zero, Act.put, List.setIfInBounds_toArray, List.set_cons_zero, List.set_cons_succ]
  refine wpAnyR_take 2 (v := ?_) rfl (by kernel_rfl) (by kernel_rfl) (by kernel_rfl) (by kernel_rfl) (fun _ _ _ h => h) hS ⟨by rfl, ?_⟩ ?_
  rotate_left; (intro w hSw; (try dsimp only at hSw); first | (go_simp; done) | (go_simp; with_reducible rfl))
  simp only [List.getElem_toArray, List.getElem_cons_zero, List.getElem_cons_succ, Act.put, List.setIfInBounds_toArray, List.set_cons_zero, List.set_cons_succ]
  refine wpAnyR_take 3 (v := ?_) rfl (by kernel_rfl) (by kernel_rfl) (by kernel_rfl) (by kernel_rfl) (fun _ _ _ h => h) hS ⟨by rfl, ?_⟩ ?_
  rotate_left; (intro w hSw; (try dsimp only at hSw); first | (go_simp; done) | (go_simp; with_reducible rfl))
  simp only [List.getElem_toArray, List.getElem_cons_zero, List.getElem_cons_succ, Act.put, List.setIfInBounds_toArray, List.set_cons_zero, List.set_cons_succ]
  refine wpAnyR_take 4 (v := ?_) rfl (by kernel_rfl) (by kernel_rfl) (by kernel_rfl) (by kernel_rfl) (fun _ _ _ h => h) hS ⟨by rfl, ?_⟩ ?_
  rotate_left; (intro w hSw; (try dsimp only at hSw); first | (go_simp; done) | (go_simp; with_reducible rfl))
  simp only [List.getElem_toArray, List.getElem_cons_zero, List.getElem_cons_succ, Act.put, List.setIfInBounds_toArray, List.set_cons_zero, List.set_cons_succ]
  refine wpAnyR_take 5 (v := ?_) rfl (by kernel_rfl) (by kernel_rfl) (by kernel_rfl) (by kernel_rfl) (fun _ _ _ h => h) hS ⟨by rfl, ?_⟩ ?_
  rotate_left; (intro w hSw; (try dsimp only at hSw); first | (go_simp; done) | (go_simp; with_reducible rfl))
  simp only [List.getElem_toArray, List.getElem_cons_zero, List.getElem_cons_succ, Act.put, List.setIfInBounds_toArray, List.set_cons_zero, List.set_cons_succ]
  refine wpAnyR_one 1 rfl (by kernel_rfl) (fun K hK1 => ?_)
  go_simp
  go_at_call 10
  refine (all_made HT2.out hN).mono ?_
  rintro e w3 ⟨v3, rfl, ho3, hk3⟩
  obtain ⟨A3, c3, hv3, _, _, hs3⟩ := ho3.out
  subst hv3
  have hS3 : w3.cell? ⟨rp, 4, none⟩ = some (.slice A n c) ∧ w3.cell? ⟨xb, 0, none⟩ = some (.int .u8 el) ∧ w3.cell? ⟨xb, 1, none⟩ = some (.int .u32 (n : Int)) ∧ w3.cell? ⟨xb, 2, none⟩ = some (.int .u32 mx) ∧ w3.cell? ⟨xb, 3, none⟩ = some (.bool bd) :=
    ⟨keep0 hk3 hS.1, keep0 hk3 hS.2.1, keep0 hk3 hS.2.2.1, keep0 hk3 hS.2.2.2.1, keep0 hk3 hS.2.2.2.2⟩
  have HT3 := Lib.hid (HT2.out.kept0 hk3)
  have HSL3 := Lib.hid (HSL2.out.kept hk3 hxb2 (fun _ x => x.elim))
  have HK3 := Lib.hid (HK2.out.then0 hk3)
  refine hK1.out _ _ (fun _ => hS3) ?_
  clear hK1 K hS HT2 HR2 HSL2 HK2 ho3 hk3 hxb2
  refine wpAnyR_one 6 rfl (by kernel_rfl) (fun K hK6 => ?_)
  go_simp
  go_at_call 12
  refine (values_same A3 A n c3 c f f w3 hs3 HSL3.out.sl (by omega) (fun _ _ => rfl)).mono ?_
  rintro e w4 ⟨rfl, hk4⟩
  have hS4 : w4.cell? ⟨rp, 4, none⟩ = some (.slice A n c) ∧ w4.cell? ⟨xb, 0, none⟩ = some (.int .u8 el) ∧ w4.cell? ⟨xb, 1, none⟩ = some (.int .u32 (n : Int)) ∧ w4.cell? ⟨xb, 2, none⟩ = some (.int .u32 mx) ∧ w4.cell? ⟨xb, 3, none⟩ = some (.bool bd) :=
    ⟨keep0 hk4 hS3.1, keep0 hk4 hS3.2.1, keep0 hk4 hS3.2.2.1, keep0 hk4 hS3.2.2.2.1, keep0 hk4 hS3.2.2.2.2⟩
  have HT4 := Lib.hid (HT3.out.kept0 hk4)
  have HK4 := Lib.hid (HK3.out.then0 hk4)
  refine hK6.out _ _ (fun _ => hS4) ?_
  clear hK6 K hS3 HT3 HSL3 HK3 hk4 hs3
  refine wpAnyR_take 7 (v := ?_) rfl (by kernel_rfl) (by kernel_rfl) (by kernel_rfl) (by kernel_rfl) (fun _ _ _ h => h) hS4 ⟨by rfl, ?_⟩ ?_
  rotate_left; (intro w hSw; (try dsimp only at hSw); first | (go_simp; done) | (go_simp; with_reducible rfl))
  simp only [List.getElem_toArray, List.getElem_cons_zero, List.getElem_cons_succ, Act.put, List.setIfInBounds_toArray, List.set_cons_zero, List.set_cons_succ]
  refine wpAnyR_take 8 (v := ?_) rfl (by kernel_rfl) (by kernel_rfl) (by kernel_rfl) (by kernel_rfl) (fun _ _ _ h => h) hS4 ⟨by rfl, ?_⟩ ?_
  rotate_left; (intro w hSw; (try dsimp only at hSw); first | (go_simp; done) | (go_simp; with_reducible rfl))
  simp only [List.getElem_toArray, List.getElem_cons_zero, List.getElem_cons_succ, Act.put, List.setIfInBounds_toArray, List.set_cons_zero, List.set_cons_succ]
  refine wpAnyR_take 10 (v := ?_) rfl (by kernel_rfl) (by kernel_rfl) (by kernel_rfl) (by kernel_rfl) (fun _ _ _ h => h) hS4 ⟨by rfl, ?_⟩ ?_
  rotate_left; (intro w hSw; (try dsimp only at hSw); first | (go_simp; done) | (go_simp; with_reducible rfl))
  simp only [List.getElem_toArray, List.getElem_cons_zero, List.getElem_cons_succ, Act.put, List.setIfInBounds_toArray, List.set_cons_zero, List.set_cons_succ]
  refine wpAnyR_take 11 (v := ?_) rfl (by kernel_rfl) (by kernel_rfl) (by kernel_rfl) (by kernel_rfl) (fun _ _ _ h => h) hS4 ⟨by rfl, ?_⟩ ?_
  rotate_left; (intro w hSw; (try dsimp only at hSw); first | (go_simp; done) | (go_simp; with_reducible rfl))
  simp only [List.getElem_toArray, List.getElem_cons_zero, List.getElem_cons_succ, Act.put, List.setIfInBounds_toArray, List.set_cons_zero, List.set_cons_succ]
  refine wpAnyR_take 12 (v := ?_) rfl (by kernel_rfl) (by kernel_rfl) (by kernel_rfl) (by kernel_rfl) (fun _ _ _ h => h) hS4 ⟨by rfl, ?_⟩ ?_
  rotate_left; (intro w hSw; (try dsimp only at hSw); first | (go_simp; done) | (go_simp; with_reducible rfl))
  simp only [List.getElem_toArray, List.getElem_cons_zero, List.getElem_cons_succ, Act.put, List.setIfInBounds_toArray, List.set_cons_zero, List.set_cons_succ]
  refine wpAnyR_one 9 rfl (by kernel_rfl) (fun K hK9 => ?_)
  go_simp
  go_at_call 17
  obtain ⟨A5, c5, hl5, _, _, _⟩ := HT4.out.own.out
  have q0 := HT4.out.c0
  have q5 := HT4.out.c5
  rw [hl5] at q5
  refine (size_made tp _ A5 n c5 q0 q5 hN).mono ?_
  rintro e w5 ⟨rfl, rfl⟩
  refine hK9.out _ _ (fun _ => hS4) ?_
  clear hK9 K q0 q5 hl5
  refine wpAnyR_take 13 (v := ?_) rfl (by kernel_rfl) (by kernel_rfl) (by kernel_rfl) (by kernel_rfl) (fun _ _ _ h => h) hS4 ⟨by rfl, ?_⟩ ?_
  rotate_left; (intro w hSw; (try dsimp only at hSw); first | (go_simp; done) | (go_simp; with_reducible rfl))
  simp only [List.getElem_toArray, List.getElem_cons_zero, List.getElem_cons_succ, Act.put, List.setIfInBounds_toArray, List.set_cons_zero, List.set_cons_succ]
  refine wpAnyR_take 14 (v := ?_) rfl (by kernel_rfl) (by kernel_rfl) (by kernel_rfl) (by kernel_rfl) (fun _ _ _ h => h) hS4 ⟨by rfl, ?_⟩ ?_
  rotate_left; (intro w hSw; (try dsimp only at hSw); first | (go_simp; done) | (go_simp; with_reducible rfl))
  simp only [List.getElem_toArray, List.getElem_cons_zero, List.getElem_cons_succ, Act.put, List.setIfInBounds_toArray, List.set_cons_zero, List.set_cons_succ]
  refine wpAnyR_take 15 (v := ?_) rfl (by kernel_rfl) (by kernel_rfl) (by kernel_rfl) (by kernel_rfl) (fun _ _ _ h => h) hS4 ⟨by rfl, ?_⟩ ?_
  rotate_left; (intro w hSw; (try dsimp only at hSw); first | (go_simp; done) | (go_simp; with_reducible rfl))
  simp only [List.getElem_toArray, List.getElem_cons_zero, List.getElem_cons_succ, Act.put, List.setIfInBounds_toArray, List.set_cons_zero, List.set_cons_succ]
  refine wpAnyR_take 16 (v := ?_) rfl (by kernel_rfl) (by kernel_rfl) (by kernel_rfl) (by kernel_rfl) (fun _ _ _ h => h) hS4 ⟨by rfl, ?_⟩ ?_
  rotate_left; (intro w hSw; (try dsimp only at hSw); first | (go_simp; done) | (go_simp; with_reducible rfl))
  simp only [List.getElem_toArray, List.getElem_cons_zero, List.getElem_cons_succ, Act.put, List.setIfInBounds_toArray, List.set_cons_zero, List.set_cons_succ]
  refine wpAnyR_take 18 (v := ?_) rfl (by kernel_rfl) (by kernel_rfl) (by kernel_rfl) (by kernel_rfl) (fun _ _ _ h => h) hS4 ⟨by rfl, ?_⟩ ?_
  rotate_left; (intro w hSw; (try dsimp only at hSw); first | (go_simp; done) | (go_simp; with_reducible rfl))
  simp only [List.getElem_toArray, List.getElem_cons_zero, List.getElem_cons_succ, Act.put, List.setIfInBounds_toArray, List.set_cons_zero, List.set_cons_succ]
  refine wpAnyR_one 17 rfl (by kernel_rfl) (fun K hK17 => ?_)
  go_simp
  go_at_call 26
  refine (type_made HT4.out hN).mono ?_
  rintro e w6 ⟨rfl, hk6⟩
  have hS6 : w6.cell? ⟨rp, 4, none⟩ = some (.slice A n c) ∧ w6.cell? ⟨xb, 0, none⟩ = some (.int .u8 el) ∧ w6.cell? ⟨xb, 1, none⟩ = some (.int .u32 (n : Int)) ∧ w6.cell? ⟨xb, 2, none⟩ = some (.int .u32 mx) ∧ w6.cell? ⟨xb, 3, none⟩ = some (.bool bd) :=
    ⟨keep0 hk6 hS4.1, keep0 hk6 hS4.2.1, keep0 hk6 hS4.2.2.1, keep0 hk6 hS4.2.2.2.1, keep0 hk6 hS4.2.2.2.2⟩
  have HK6 := Lib.hid (HK4.out.then0 hk6)
  refine hK17.out _ _ (fun _ => hS6) ?_
  clear hK17 K hS4 HT4 HK4 hk6
  refine wpAnyR_take 19 (v := ?_) rfl (by kernel_rfl) (by kernel_rfl) (by kernel_rfl) (by kernel_rfl) (fun _ _ _ h => h) hS6 ⟨by rfl, ?_⟩ ?_
  rotate_left; (intro w hSw; (try dsimp only at hSw); first | (go_simp; done) | (go_simp; with_reducible rfl))
  simp only [List.getElem_toArray, List.getElem_cons_zero, List.getElem_cons_succ, Act.put, List.setIfInBounds_toArray, List.set_cons_zero, List.set_cons_succ]
  refine wpAnyR_take 20 (v := ?_) rfl (by kernel_rfl) (by kernel_rfl) (by kernel_rfl) (by kernel_rfl) (fun _ _ _ h => h) hS6 ⟨by rfl, ?_⟩ ?_
  rotate_left; (intro w hSw; (try dsimp only at hSw); first | (go_simp; done) | (go_simp; with_reducible rfl))
  simp only [List.getElem_toArray, List.getElem_cons_zero, List.getElem_cons_succ, Act.put, List.setIfInBounds_toArray, List.set_cons_zero, List.set_cons_succ]
  refine wpAnyR_take 21 (v := ?_) rfl (by kernel_rfl) (by kernel_rfl) (by kernel_rfl) (by kernel_rfl) (fun _ _ _ h => h) hS6 ⟨by rfl, ?_⟩ ?_
  rotate_left; (intro w hSw; (try dsimp only at hSw); first | (go_simp; done) | (go_simp; with_reducible rfl))
  simp only [List.getElem_toArray, List.getElem_cons_zero, List.getElem_cons_succ, Act.put, List.setIfInBounds_toArray, List.set_cons_zero, List.set_cons_succ]
  refine wpAnyR_done (by kernel_rfl) ?_ _
  clear hS6
  go_wp2_with fail
  go_ret
  exact ⟨rfl, HK6.out⟩
end Go.Proofs.Ytpeekldngelkkaa
