/- A checker as plain Lean: its values, its frames; what a call keeps while its own blocks may change. No condition. -/
import Derived.Test.YtpbaojjcbpfdaaaStkI
namespace Go.Proofs.Ytpbaojjcbpfdaaa
open Go.RowKit

structure Frm where
  op : Int
  n : Nat
  u : Nat → UInt8
  m : Nat
  t : Nat → UInt8
  h : Nat
  dead : Bool

structure St where
  n : Nat
  v : Nat → UInt8
  k : Nat
  D : Nat → Frm

/-- What a call does to memory: it writes X's blocks alone; then X' may be written: X's, or new ones. -/
structure Stp (X X' : Nat → Prop) (w w' : World) : Prop where
  kept : Kept X w w'
  sub : ∀ i, X' i → X i ∨ w.heap.size ≤ i

section
variable {X X' X'' : Nat → Prop} {w w1 w' : World}
theorem Stp.refl (X : Nat → Prop) (w : World) : Stp X X w w := ⟨Kept.refl _ _, fun _ h => .inl h⟩
theorem Stp.of0 (h : Kept S0 w w') : Stp X X w w' := ⟨h.of0 _, fun _ h => .inl h⟩
theorem Stp.of {S : Nat → Prop} (h : Kept S w w') (hs : ∀ i, S i → X i) : Stp X X w w' := ⟨h.mono hs, fun _ h => .inl h⟩
theorem Stp.trans (h : Stp X X' w w1) (k : Stp X' X'' w1 w') : Stp X X'' w w' :=
  ⟨h.kept.trans_ k.kept h.sub, fun i hi => (k.sub i hi).elim (h.sub i) (fun h2 => .inr (Nat.le_trans h.kept.size h2))⟩
theorem Stp.then0 (h : Stp X X' w w1) (k : Kept S0 w1 w') : Stp X X' w w' := h.trans (.of0 k)
theorem Stp.toB {base : Nat} (h : Stp X X' w w') (hX : ∀ i, X i → base ≤ i) : Kept (SB base) w w' := h.kept.mono hX
theorem Stp.low {base : Nat} (h : Stp X X' w w') (hX : ∀ i, X i → base ≤ i) (hb : base ≤ w.heap.size) : ∀ i, X' i → base ≤ i := fun i hi => (h.sub i hi).elim (hX i) (Nat.le_trans hb)

theorem Came.step {A : Option Addr} {n c : Nat} {v : Nat → UInt8} (h : Came X w A n c v) (hs : Stp X X' w w') : Came X' w' A n c v :=
  { sl := fun hn => (by
      obtain ⟨b, o, e, hb, r⟩ := h.sl hn
      have hlt : b < w.heap.size := World.block_lt_of_cell? _ _ (r 0 hn)
      exact ⟨b, o, e, fun x => (hs.sub b x).elim hb (fun h2 => by omega), fun i hi => (hs.kept.cell (p := ⟨b, o + i, Option.none⟩) hlt hb).trans (r i hi)⟩),
    none := h.none, le := h.le }
end

/-- A frame's cells, its lists as they read, outside X. -/
def FrOk (X : Nat → Prop) (w : World) (F : Nat → Value) (q : Nat) (d : Frm) : Prop :=
  ∃ A c B e, FrAt F q d.op (.slice A d.n c) (.slice B d.m e) d.h d.dead ∧ Came X w A d.n c d.u ∧ Came X w B d.m e d.t

def FrsOk (X : Nat → Prop) (w : World) (F : Nat → Value) (k : Nat) (D : Nat → Frm) : Prop := ∀ q, q < k → FrOk X w F q (D q)

theorem FrsOk.step {X X' : Nat → Prop} {w w' : World} {F : Nat → Value} {k : Nat} {D : Nat → Frm} (h : FrsOk X w F k D) (hs : Stp X X' w w') : FrsOk X' w' F k D := fun q hq => by
  obtain ⟨A, c, B, e, h1, h2, h3⟩ := h q hq
  exact ⟨A, c, B, e, h1, h2.step hs, h3.step hs⟩

theorem FrsOk.mono {X Y : Nat → Prop} {w : World} {F : Nat → Value} {k : Nat} {D : Nat → Frm} (h : FrsOk X w F k D) (hs : ∀ i, Y i → X i) : FrsOk Y w F k D := fun q hq => by
  obtain ⟨A, c, B, e, h1, h2, h3⟩ := h q hq
  exact ⟨A, c, B, e, h1, h2.mono hs, h3.mono hs⟩

theorem FrsOk.congr {X : Nat → Prop} {w : World} {F G : Nat → Value} {k : Nat} {D : Nat → Frm} (h : FrsOk X w F k D) (he : ∀ i, i < k * 5 → F i = G i) : FrsOk X w G k D := fun q hq => by
  obtain ⟨A, c, B, e, h1, h2⟩ := h q hq
  refine ⟨A, c, B, e, ⟨?_, ?_, ?_, ?_, ?_⟩, h2⟩
  · rw [← he _ (by omega)]; exact h1.f0
  · rw [← he _ (by omega)]; exact h1.f1
  · rw [← he _ (by omega)]; exact h1.f2
  · rw [← he _ (by omega)]; exact h1.f3
  · rw [← he _ (by omega)]; exact h1.f4

/-- X's blocks and Z's. -/
def XZ (X Z : Nat → Prop) : Nat → Prop := fun i => X i ∨ Z i
theorem Stp.z {X X' Z : Nat → Prop} {w w' : World} (h : Stp X X' w w') : Stp (XZ X Z) (XZ X' Z) w w' :=
  ⟨h.kept.mono (fun _ hi => .inl hi), fun i hi => hi.elim (fun hx => (h.sub i hx).elim (fun h => .inl (.inl h)) .inr) (fun hz => .inl (.inr hz))⟩

/-- A checker that is there: X are its own blocks, Z blocks that its frames' lists are not in. -/
structure StkIs (w : World) (sb base : Nat) (X Z : Nat → Prop) (s : St) : Prop where
  ex : ∃ lv lf F, StkAt w sb base s.n s.v lv s.k F lf ∧ (∀ i, SK sb lv lf i ↔ X i) ∧ FrsOk (XZ X Z) w F s.k s.D
  low : ∀ i, X i → base ≤ i
  zlt : ∀ i, Z i → i < w.heap.size

/-- Its heights. -/
structure St.Wf (s : St) : Prop where
  le : ∀ q, q < s.k → (s.D q).h ≤ s.n
  mono : ∀ q r, q ≤ r → r < s.k → (s.D q).h ≤ (s.D r).h
  n : s.n ≤ 140737488351232
  k : s.k ≤ 1000000000

def St.top (s : St) : Frm := s.D (s.k - 1)
def St.pop (s : St) (u : Nat → UInt8) (m : Nat) : Option Nat := if s.k = 0 then none else pops s.v s.top.h s.top.dead u m s.n
/-- Take: how it ends, what it takes, how many are left. -/
def St.takeE (s : St) : Int := if s.k = 0 then 5 else if s.n = s.top.h then (if s.top.dead = true then 0 else 5) else 0
def St.takeT (s : St) : UInt8 := if s.k = 0 then 0 else if s.n = s.top.h then 0 else s.v (s.n - 1)
def St.takeN (s : St) : Nat := if s.k = 0 then s.n else if s.n = s.top.h then s.n else s.n - 1
def St.fits (s : St) (t : UInt8) : Prop := s.takeT = t ∨ s.takeT = 0 ∨ t = 0
instance (s : St) (t : UInt8) : Decidable (s.fits t) := by unfold St.fits; infer_instance
def St.ofE (s : St) (t : UInt8) : Int := if s.takeE = 0 then (if s.fits t then 0 else 5) else 5
def St.ofT (s : St) (t : UInt8) : UInt8 := if s.ofE t = 0 then s.takeT else 0
def St.ofN (s : St) (t : UInt8) : Nat := if s.ofE t = 0 then s.takeN else s.n
def St.allE (s : St) (u : Nat → UInt8) (m : Nat) : Int := if (s.pop u m).isSome then 0 else 5
def St.allN (s : St) (u : Nat → UInt8) (m : Nat) : Nat := (s.pop u m).getD s.n
def St.closeE (s : St) : Int := if s.pop s.top.t s.top.m = some s.top.h then 0 else 5
def frm0 : Frm := ⟨0, 0, fun _ => 0, 0, fun _ => 0, 0, false⟩
def St.closeF (s : St) : Frm := if s.closeE = 0 then s.top else frm0
def St.withN (s : St) (n : Nat) : St := { s with n := n }
def St.close (s : St) : St := if s.closeE = 0 then { s with n := s.top.h, k := s.k - 1 } else s
def St.push (s : St) (u : Nat → UInt8) (m : Nat) : St := { s with n := s.n + m, v := afterB s.n s.v u }
def St.open (s : St) (op : Int) (n : Nat) (u : Nat → UInt8) (m : Nat) (t : Nat → UInt8) : St :=
  { n := s.n + n, v := afterB s.n s.v u, k := s.k + 1, D := fun q => if q = s.k then ⟨op, n, u, m, t, s.n, false⟩ else s.D q }
def St.deadE (s : St) : Int := if s.k = 0 then 5 else 0
def St.dead (s : St) : St := if s.k = 0 then s else { s with n := s.top.h, D := fun q => if q = s.k - 1 then { s.top with dead := true } else s.D q }
/-- Label: how it ends, how many, which. -/
def St.labE (s : St) (i : Nat) : Int := if i < s.k then 0 else 5
def St.labN (s : St) (i : Nat) : Nat := if i < s.k then (if (s.D (s.k - 1 - i)).op = 3 then (s.D (s.k - 1 - i)).n else (s.D (s.k - 1 - i)).m) else 0
def St.labV (s : St) (i : Nat) : Nat → UInt8 := if (s.D (s.k - 1 - i)).op = 3 then (s.D (s.k - 1 - i)).u else (s.D (s.k - 1 - i)).t

theorem pops_le (v u : Nat → UInt8) (h : Nat) (dead : Bool) : ∀ i n r, h ≤ n → pops v h dead u i n = some r → h ≤ r ∧ r ≤ n
  | 0, n, r, hn, hp => by simp [pops] at hp; omega
  | i + 1, n, r, hn, hp => by
    rw [pops] at hp
    split at hp
    · split at hp
      · exact pops_le v u h dead i n r hn hp
      · cases hp
    · split at hp
      · have := pops_le v u h dead i (n - 1) r (by omega) hp
        omega
      · cases hp

theorem St.takeN_le (s : St) (hw : s.Wf) : (∀ q, q < s.k → (s.D q).h ≤ s.takeN) ∧ s.takeN ≤ s.n := by
  unfold St.takeN
  split
  · exact ⟨hw.le, Nat.le_refl _⟩
  · split
    · exact ⟨hw.le, Nat.le_refl _⟩
    · rename_i h0 h1
      have ht : s.top.h ≤ s.n := hw.le (s.k - 1) (by omega)
      refine ⟨fun q hq => ?_, by omega⟩
      have h2 : (s.D q).h ≤ s.top.h := hw.mono q (s.k - 1) (by omega) (by omega)
      omega

theorem St.allN_le (s : St) (hw : s.Wf) (u : Nat → UInt8) (m : Nat) : (∀ q, q < s.k → (s.D q).h ≤ s.allN u m) ∧ s.allN u m ≤ s.n := by
  unfold St.allN St.pop
  split
  · exact ⟨hw.le, Nat.le_refl _⟩
  · rename_i h0
    have ht : s.top.h ≤ s.n := hw.le (s.k - 1) (by omega)
    cases hp : pops s.v s.top.h s.top.dead u m s.n with
    | none => exact ⟨hw.le, Nat.le_refl _⟩
    | some r =>
      obtain ⟨h1, h2⟩ := pops_le _ _ _ _ _ _ _ ht hp
      exact ⟨fun q hq => Nat.le_trans (hw.mono q (s.k - 1) (by omega) (by omega)) h1, h2⟩

theorem St.Wf.withN {s : St} (hw : s.Wf) {n : Nat} (h : (∀ q, q < s.k → (s.D q).h ≤ n) ∧ n ≤ s.n) : (s.withN n).Wf := ⟨h.1, hw.mono, Nat.le_trans h.2 hw.n, hw.k⟩
theorem St.Wf.take {s : St} (hw : s.Wf) : (s.withN s.takeN).Wf := hw.withN (s.takeN_le hw)
theorem St.Wf.takeOf {s : St} (hw : s.Wf) (t : UInt8) : (s.withN (s.ofN t)).Wf := by
  unfold St.ofN
  split
  · exact hw.take
  · exact hw.withN ⟨hw.le, Nat.le_refl _⟩
theorem St.Wf.takeAll {s : St} (hw : s.Wf) (u : Nat → UInt8) (m : Nat) : (s.withN (s.allN u m)).Wf := hw.withN (s.allN_le hw u m)
theorem St.Wf.push {s : St} (hw : s.Wf) (u : Nat → UInt8) (m : Nat) (hb : s.n + m ≤ 140737488351232) : (s.push u m).Wf := ⟨fun q hq => Nat.le_trans (hw.le q hq) (Nat.le_add_right _ _), hw.mono, hb, hw.k⟩
theorem St.Wf.open {s : St} (hw : s.Wf) (op : Int) (n : Nat) (u : Nat → UInt8) (m : Nat) (t : Nat → UInt8) (hb : s.n + n ≤ 140737488351232) (hk : s.k + 1 ≤ 1000000000) : (s.open op n u m t).Wf := by
  refine ⟨fun q hq => ?_, fun q r hqr hr => ?_, hb, hk⟩
  · simp only [St.open] at hq ⊢
    split
    · exact Nat.le_add_right _ _
    · exact Nat.le_trans (hw.le q (by omega)) (Nat.le_add_right _ _)
  · simp only [St.open] at hr ⊢
    split
    · rw [if_pos (by omega)]; exact Nat.le_refl _
    · split
      · exact hw.le q (by omega)
      · exact hw.mono q r hqr (by omega)
theorem St.Wf.close {s : St} (hw : s.Wf) : s.close.Wf := by
  unfold St.close
  split
  · rename_i h
    refine ⟨fun q hq => ?_, fun q r hqr hr => hw.mono q r hqr (Nat.lt_of_lt_of_le hr (Nat.sub_le _ _)), Nat.le_trans ?_ hw.n, Nat.le_trans (Nat.sub_le _ _) hw.k⟩
    · have hq' : q < s.k - 1 := hq
      exact hw.mono q (s.k - 1) (by omega) (by omega)
    · show s.top.h ≤ s.n
      by_cases h0 : s.k = 0
      · unfold St.closeE St.pop at h
        rw [if_pos h0, if_neg (by intro e; cases e)] at h
        cases h
      · exact hw.le (s.k - 1) (by omega)
  · exact hw
theorem St.Wf.dead {s : St} (hw : s.Wf) : s.dead.Wf := by
  unfold St.dead
  split
  · exact hw
  · rename_i h0
    have hD : ∀ q, (if q = s.k - 1 then ({ s.top with dead := true } : Frm) else s.D q).h = (s.D q).h := fun q => by
      split
      · rename_i e; subst e; rfl
      · rfl
    refine ⟨fun q hq => ?_, fun q r hqr hr => ?_, Nat.le_trans (hw.le (s.k - 1) (by omega)) hw.n, hw.k⟩
    · show (if q = s.k - 1 then ({ s.top with dead := true } : Frm) else s.D q).h ≤ s.top.h
      rw [hD]
      have hq' : q < s.k := hq
      exact hw.mono q (s.k - 1) (by omega) (by omega)
    · show (if q = s.k - 1 then ({ s.top with dead := true } : Frm) else s.D q).h ≤ (if r = s.k - 1 then ({ s.top with dead := true } : Frm) else s.D r).h
      rw [hD, hD]
      exact hw.mono q r hqr hr
end Go.Proofs.Ytpbaojjcbpfdaaa
