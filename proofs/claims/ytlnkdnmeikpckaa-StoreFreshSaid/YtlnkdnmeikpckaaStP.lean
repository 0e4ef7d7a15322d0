/- The state of the walk of StoreFresh. No condition. -/
import Derived.Test.YtlnkdnmeikpckaaStO
namespace Go.Proofs.Ytlnkdnmeikpckaa
open Go.RowKit

theorem own_write {w : World} {b e sz n c g j : Nat} {Q : Value → Prop} {F : Nat → Value} {u : Value} (h : Own w b e sz Q (.slice (some ⟨g, 0, none⟩) n c) n F) (hu : Q u) : ∃ F', Own (w.setCell ⟨g, j, none⟩ u) b e sz Q (.slice (some ⟨g, 0, none⟩) n c) n F' := by
  rcases h with ⟨h, _⟩ | ⟨g1, c1, fr, h, h2, h3, h4, h5, h6, h7⟩
  · cases h
  · cases h
    refine ⟨_, .inr ⟨g, c, _, rfl, h2, h3, h4, h5.set j u, fun _ _ => rfl, fun i hi => ?_⟩⟩
    show Q (if i = j then _ else fr i)
    split
    · exact hu
    · exact h7 i hi

theorem Own.cellAt {w : World} {b e sz n c g j : Nat} {Q : Value → Prop} {F : Nat → Value} (h : Own w b e sz Q (.slice (some ⟨g, 0, none⟩) n c) n F) (hj : j < n * sz) : w.cell? ⟨g, j, none⟩ = some (F j) ∧ w.frozen? ⟨g, j, none⟩ = false := by
  rcases h with ⟨h, _⟩ | ⟨g1, c1, fr, h, h2, h3, h4, h5, h6, h7⟩
  · cases h
  · cases h
    exact ⟨by rw [← h6 j hj]; exact h5.cell (Nat.lt_of_lt_of_le hj (Nat.mul_le_mul_right _ h3)), h5.frozen j⟩

theorem own_types {w : World} {b1 b2 e1 e2 s1 s2 n1 n2 : Nat} {Q1 Q2 : Value → Prop} {x y : Value} {F1 F2 : Nat → Value} (h : Own w b1 e1 s1 Q1 x n1 F1) (k : Own w b2 e2 s2 Q2 y n2 F2) (hne : e1 ≠ e2) : ∀ g, x.ownBlock = some g → y.ownBlock ≠ some g := by
  intro g hx hy
  rcases h with ⟨rfl, _⟩ | ⟨g1, c1, f1, rfl, _, _, _, r1, _⟩
  · simp [Value.ownBlock] at hx
  rcases k with ⟨rfl, _⟩ | ⟨g2, c2, f2, rfl, _, _, _, r2, _⟩
  · simp [Value.ownBlock] at hy
  obtain rfl : g1 = g := by simpa [Value.ownBlock] using hx
  obtain rfl : g2 = g1 := by simpa [Value.ownBlock] using hy
  obtain ⟨cs1, p1, _, _⟩ := r1
  obtain ⟨cs2, p2, _, _⟩ := r2
  rw [p1] at p2
  injection p2 with p2
  injection p2 with _ p2
  exact hne p2

/-- The block of a slice of its own. -/
def SB (v : Value) : Nat → Prop := fun i => v.ownBlock = some i

theorem spoil_own (B n : Nat) (A : Option Addr) (cap : Nat) (x : UInt8) (F : Nat → Value) (w : World) (hO : Own w B 5 1 IsByte (.slice A n cap) n F) :
    Calls Try.prog 13 #[.slice A n cap, .int .u8 (x.toNat : Int)] w fun e w' => e = .returned (.tuple #[]) ∧ Kept (SB (.slice A n cap)) w w' := by
  rcases hO with ⟨e, rfl⟩ | ⟨g, c, fr, e, h⟩
  · cases e
    obtain ⟨D1, r1, d1⟩ := run_cutS_h (P := Try.prog) 26 5 1 Try.underlying26 Try.sizeU8 none 0 0 .i64 (0 : Int) 0 rfl (by omega)
    clear d1
    go_enter Try.func13, Try.ntmps13
    go_wp2_with fail
    go_loopw [4] (fun i wr => i = .int .i64 0 ∧ wr = w) (fun _ _ => 0)
    case atStart => exact ⟨rfl, rfl⟩
    case round =>
      obtain ⟨rfl, rfl⟩ := hrel
      go_wp2_with fail
      go_end0
      exact ⟨rfl, Kept.refl _ _⟩
  · cases e
    refine (spoil_any B g n cap x F w (.inr ⟨g, cap, fr, rfl, h⟩)).mono ?_
    rintro e w' ⟨rfl, hk⟩
    exact ⟨rfl, hk.mono (fun i hi => by have e' : i = g := hi; rw [e']; rfl)⟩

/-- An own slice whose block lies between M and N. -/
structure OwnB (w : World) (M N e sz : Nat) (Q : Value → Prop) (v : Value) (n : Nat) (F : Nat → Value) : Prop where
  own : Own w M e sz Q v n F
  lt : ∀ g, v.ownBlock = some g → g < N

section
variable {w w' : World} {M N e sz n : Nat} {Q : Value → Prop} {v : Value} {F : Nat → Value} {S : Nat → Prop}
theorem OwnB.kept (h : OwnB w M N e sz Q v n F) (hk : Kept S w w') (hS : ∀ i, S i → i < M ∨ N ≤ i) : OwnB w' M N e sz Q v n F :=
  ⟨h.own.kept hk (fun g hg e => by have h1 := (h.own.lt g hg).1; have h2 := h.lt g hg; rcases hS g e with h | h <;> omega), h.lt⟩
theorem OwnB.of (h : Own w M e sz Q v n F) : OwnB w M w.heap.size e sz Q v n F := ⟨h, fun g hg => (h.lt g hg).2⟩
theorem OwnB.more {N' : Nat} (h : OwnB w M N e sz Q v n F) (hN : N ≤ N') : OwnB w M N' e sz Q v n F := ⟨h.own, fun g hg => Nat.lt_of_lt_of_le (h.lt g hg) hN⟩
end

/-- The store's functions: the one that was put, or none. -/
structure FuncK (w : World) (M N : Nat) (fl : Value) (e1 : Int) (np : Nat) (pv : Nat → UInt8) (nr : Nat) (rv : Nat → UInt8) : Prop where
  is : ∃ n F, OwnB w M N 36 6 AnyV fl n F ∧ ((e1 = 0 ∧ n = 1 ∧ ∃ yA yc zA zc, F = after (0 * 6) (fun _ => undef) (ecell #[.slice yA np yc, .slice zA nr zc, .bool false, .string { data := #[] }, .int .i64 0, .int .i64 0]) ∧ OwnB w M N 37 1 IsByte (.slice yA np yc) np (byteV pv) ∧ OwnB w M N 37 1 IsByte (.slice zA nr zc) nr (byteV rv)) ∨ (e1 = 2 ∧ n = 0))
/-- The store's elements: those that were put, or none. -/
structure ElemK (w : World) (M N : Nat) (el : Value) (e2 : Int) (nl : Nat) (lv : Nat → V3) : Prop where
  is : ∃ n F, OwnB w M N 130 2 AnyV el n F ∧ ((e2 = 0 ∧ n = 1 ∧ ∃ t yA yc, F 0 = .int .u8 t ∧ F 1 = .slice yA nl yc ∧ OwnB w M N 40 3 AnyV (.slice yA nl yc) nl (vcell lv)) ∨ (e2 = 2 ∧ n = 0))
/-- The store's data: those that were put. -/
structure DataK (w : World) (M N : Nat) (dl : Value) (nb : Nat) (bv : Nat → UInt8) : Prop where
  is : ∃ F yA yc, OwnB w M N 26 1 AnyV dl 1 F ∧ F 0 = .slice yA nb yc ∧ OwnB w M N 5 1 IsByte (.slice yA nb yc) nb (byteV bv)

section
variable {w w' : World} {M N np nr nl nb : Nat} {e1 e2 : Int} {fl el dl : Value} {pv rv bv : Nat → UInt8} {lv : Nat → V3} {S : Nat → Prop}
theorem FuncK.kept (h : FuncK w M N fl e1 np pv nr rv) (hk : Kept S w w') (hS : ∀ i, S i → i < M ∨ N ≤ i) : FuncK w' M N fl e1 np pv nr rv := by
  obtain ⟨n, F, h1, h2⟩ := h.is
  refine ⟨n, F, h1.kept hk hS, ?_⟩
  rcases h2 with ⟨a, b, yA, yc, zA, zc, c, d, e⟩ | h2
  · exact .inl ⟨a, b, yA, yc, zA, zc, c, d.kept hk hS, e.kept hk hS⟩
  · exact .inr h2
theorem FuncK.more {N' : Nat} (h : FuncK w M N fl e1 np pv nr rv) (hN : N ≤ N') : FuncK w M N' fl e1 np pv nr rv := by
  obtain ⟨n, F, h1, h2⟩ := h.is
  refine ⟨n, F, h1.more hN, ?_⟩
  rcases h2 with ⟨a, b, yA, yc, zA, zc, c, d, e⟩ | h2
  · exact .inl ⟨a, b, yA, yc, zA, zc, c, d.more hN, e.more hN⟩
  · exact .inr h2
theorem ElemK.kept (h : ElemK w M N el e2 nl lv) (hk : Kept S w w') (hS : ∀ i, S i → i < M ∨ N ≤ i) : ElemK w' M N el e2 nl lv := by
  obtain ⟨n, F, h1, h2⟩ := h.is
  refine ⟨n, F, h1.kept hk hS, ?_⟩
  rcases h2 with ⟨a, b, t, yA, yc, c, d, e⟩ | h2
  · exact .inl ⟨a, b, t, yA, yc, c, d, e.kept hk hS⟩
  · exact .inr h2
theorem ElemK.more {N' : Nat} (h : ElemK w M N el e2 nl lv) (hN : N ≤ N') : ElemK w M N' el e2 nl lv := by
  obtain ⟨n, F, h1, h2⟩ := h.is
  refine ⟨n, F, h1.more hN, ?_⟩
  rcases h2 with ⟨a, b, t, yA, yc, c, d, e⟩ | h2
  · exact .inl ⟨a, b, t, yA, yc, c, d, e.more hN⟩
  · exact .inr h2
theorem DataK.kept (h : DataK w M N dl nb bv) (hk : Kept S w w') (hS : ∀ i, S i → i < M ∨ N ≤ i) : DataK w' M N dl nb bv := by
  obtain ⟨F, yA, yc, h1, h2, h3⟩ := h.is
  exact ⟨F, yA, yc, h1.kept hk hS, h2, h3.kept hk hS⟩
end

/-- The store, after all was put. -/
structure FSt (w0 w : World) (sb M N : Nat) (e1 e2 : Int) (P R : Option Addr) (np pc nr rc : Nat) (pv rv : Nat → UInt8) (nl : Nat) (lv : Nat → V3) (nb : Nat) (bv : Nat → UInt8) : Prop where
  k0 : Kept S0 w0 w
  sb1 : w0.heap.size < sb
  sbM : sb < M
  MN : M ≤ N
  Nw : N ≤ w.heap.size
  box : Blk w w0.heap.size 24 #[.slice P np pc, .slice R nr rc]
  is : ∃ fl el dl, Blk w sb 95 (stCells fl (.slice none 0 0) (.slice none 0 0) (.slice none 0 0) el dl (.slice none 0 0)) ∧ FuncK w M N fl e1 np pv nr rv ∧ ElemK w M N el e2 nl lv ∧ DataK w M N dl nb bv

/-- What the walk writes to, once all is put. -/
def FS (sb M N : Nat) : Nat → Prop := fun i => sb < i ∧ (i < M ∨ N ≤ i)

theorem FSt.kept {w0 w w' : World} {sb M N : Nat} {e1 e2 : Int} {P R : Option Addr} {np pc nr rc : Nat} {pv rv : Nat → UInt8} {nl : Nat} {lv : Nat → V3} {nb : Nat} {bv : Nat → UInt8} {S : Nat → Prop} (h : FSt w0 w sb M N e1 e2 P R np pc nr rc pv rv nl lv nb bv) (hk : Kept S w w') (hS : ∀ i, S i → FS sb M N i) : FSt w0 w' sb M N e1 e2 P R np pc nr rc pv rv nl lv nb bv where
  k0 := h.k0.trans_ hk (fun i hi => .inr (by have h1 := (hS i hi).1; have h2 := h.sb1; omega))
  sb1 := h.sb1
  sbM := h.sbM
  MN := h.MN
  Nw := Nat.le_trans h.Nw hk.size
  box := hk.blk h.box (fun hi => by have h1 := (hS _ hi).1; have h2 := h.sb1; omega)
  is := by
    obtain ⟨fl, el, dl, a, b, c, d⟩ := h.is
    exact ⟨fl, el, dl, hk.blk a (fun hi => by have h1 := (hS _ hi).1; omega), b.kept hk (fun i hi => (hS i hi).2), c.kept hk (fun i hi => (hS i hi).2), d.kept hk (fun i hi => (hS i hi).2)⟩
end Go.Proofs.Ytlnkdnmeikpckaa
