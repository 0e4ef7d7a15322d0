/- Cuts of slices whose elements have several cells; values of three cells. No condition. -/
import Derived.Test.YtlnkdnmeikpckaaBase3
namespace Go.Proofs.Ytlnkdnmeikpckaa
open Go.RowKit

section
variable {P : Program}
theorem run_cutS (t e : TypeId) (s : Nat) (ht : P.underlying t = some (.slice e)) (hsz : (P.info? e).map (·.size) = some s) (A : Option Addr) (len cap : Nat) (kl kh : IntKind) (l h : Int) (a m : Nat) (hl : l = (a : Int)) (hh : h = ((a + m : Nat) : Int)) (hc : a + m ≤ cap) :
    ∃ D, (∀ w, (Instr.slice t (.slice A len cap) (some (.int kl l)) (some (.int kh h)) none).run P w = .ok (.slice D m (cap - a)) w) ∧ D = (if cap = a then A else A.map (·.add (a * s))) := by
  subst hl hh
  have e1 : P.elem t = e := by simp [Program.elem, ht]
  refine ⟨_, fun w => ?_, rfl⟩
  rw [run_slice_lh (P := P) w t A len cap (by rw [e1]; exact ht) kl kh _ _ (by omega) (by omega) (by omega), e1]
  cases hq : P.info? e with
  | none => simp [hq] at hsz
  | some i =>
    have hi : i.size = s := by simpa [hq] using hsz
    simp [sizeOf, typeInfo, hq, hi, sliced]
    omega

theorem run_cutS_h (t e : TypeId) (s : Nat) (ht : P.underlying t = some (.slice e)) (hsz : (P.info? e).map (·.size) = some s) (A : Option Addr) (len cap : Nat) (kh : IntKind) (h : Int) (m : Nat) (hh : h = (m : Int)) (hc : m ≤ cap) :
    ∃ D, (∀ w, (Instr.slice t (.slice A len cap) none (some (.int kh h)) none).run P w = .ok (.slice D m cap) w) ∧ D = (if cap = 0 then A else A.map (·.add (0 * s))) := by
  subst hh
  have e1 : P.elem t = e := by simp [Program.elem, ht]
  refine ⟨_, fun w => ?_, rfl⟩
  rw [run_slice_h (P := P) w t A len cap (by rw [e1]; exact ht) kh _ (by omega) (by omega), e1]
  cases hq : P.info? e with
  | none => simp [hq] at hsz
  | some i =>
    have hi : i.size = s := by simpa [hq] using hsz
    simp [sizeOf, typeInfo, hq, hi, sliced]

theorem run_cutS_l (t e : TypeId) (s : Nat) (ht : P.underlying t = some (.slice e)) (hsz : (P.info? e).map (·.size) = some s) (A : Option Addr) (len cap : Nat) (kl : IntKind) (l : Int) (a : Nat) (hl : l = (a : Int)) (hc : a ≤ len) :
    ∃ D, (∀ w, (Instr.slice t (.slice A len cap) (some (.int kl l)) none none).run P w = .ok (.slice D (len - a) (cap - a)) w) ∧ D = (if cap = a then A else A.map (·.add (a * s))) := by
  subst hl
  have e1 : P.elem t = e := by simp [Program.elem, ht]
  refine ⟨_, fun w => ?_, rfl⟩
  rw [run_slice_l (P := P) w t A len cap (by rw [e1]; exact ht) kl _ (by omega) (by omega), e1]
  cases hq : P.info? e with
  | none => simp [hq] at hsz
  | some i =>
    have hi : i.size = s := by simpa [hq] using hsz
    simp [sizeOf, typeInfo, hq, hi, sliced]
end

section
variable {w w' : World} {A : Option Addr} {n : Nat} {v : Nat → Value}
theorem Sl.cutS (s : Nat) (h : Sl w A (n * s) v) {k m cap : Nat} (hm : k + m ≤ n) (hc : n ≤ cap) : Sl w (if cap = k then A else A.map (·.add (k * s))) (m * s) (fun i => v (k * s + i)) := fun hn => by
  have hmul : (k + m) * s ≤ n * s := Nat.mul_le_mul_right _ hm
  rw [Nat.add_mul] at hmul
  have hm0 : 0 < m := by
    rcases Nat.eq_zero_or_pos m with h0 | h0
    · subst h0; simp at hn
    · exact h0
  obtain ⟨b, o, rfl, hcell⟩ := h (by omega)
  rw [if_neg (by omega)]
  refine ⟨b, o + k * s, by show some ((⟨b, o, none⟩ : Addr).add (k * s)) = _; rw [Addr.add_lit], fun i hi => ?_⟩
  rw [show o + k * s + i = o + (k * s + i) by omega]
  exact hcell _ (by omega)
theorem Sl.cutS0 (s : Nat) (h : Sl w A (n * s) v) {m cap : Nat} (hm : m ≤ n) (hc : n ≤ cap) : Sl w (if cap = 0 then A else A.map (·.add (0 * s))) (m * s) v :=
  (h.cutS s (k := 0) (m := m) (cap := cap) (by omega) hc).congr fun i _ => by rw [Nat.zero_mul, Nat.zero_add]
end

/-- A value: its type and its bits. -/
structure V3 where
  t : Int
  lo : Int
  hi : Int

def vpart (x : V3) (j : Nat) : Value := if j = 0 then .int .u8 x.t else if j = 1 then .int .u64 x.lo else .int .u64 x.hi
theorem vpart_0 (x : V3) : vpart x 0 = .int .u8 x.t := rfl
theorem vpart_1 (x : V3) : vpart x 1 = .int .u64 x.lo := rfl
theorem vpart_2 (x : V3) : vpart x 2 = .int .u64 x.hi := rfl
theorem vpart_one (x : V3) (j : Nat) : (vpart x j).oneCell' = true := by
  unfold vpart; split
  · rfl
  · split <;> rfl

/-- Values in a row of cells. -/
def vcell (f : Nat → V3) : Nat → Value := fun i => vpart (f (i / 3)) (i % 3)
theorem vcell_0 (f : Nat → V3) (i : Nat) : vcell f (i * 3) = .int .u8 (f i).t := by
  show vpart (f (i * 3 / 3)) (i * 3 % 3) = _
  rw [show i * 3 / 3 = i by omega, show i * 3 % 3 = 0 by omega]; rfl
theorem vcell_1 (f : Nat → V3) (i : Nat) : vcell f (i * 3 + 1) = .int .u64 (f i).lo := by
  show vpart (f ((i * 3 + 1) / 3)) ((i * 3 + 1) % 3) = _
  rw [show (i * 3 + 1) / 3 = i by omega, show (i * 3 + 1) % 3 = 1 by omega]; rfl
theorem vcell_2 (f : Nat → V3) (i : Nat) : vcell f (i * 3 + 2) = .int .u64 (f i).hi := by
  show vpart (f ((i * 3 + 2) / 3)) ((i * 3 + 2) % 3) = _
  rw [show (i * 3 + 2) / 3 = i by omega, show (i * 3 + 2) % 3 = 2 by omega]; rfl
theorem vcell_one (f : Nat → V3) (i : Nat) : (vcell f i).oneCell' = true := vpart_one _ _
theorem vcell_shift (f : Nat → V3) (k i : Nat) : vcell f (k * 3 + i) = vcell (fun j => f (k + j)) i := by
  show vpart (f ((k * 3 + i) / 3)) ((k * 3 + i) % 3) = vpart (f (k + i / 3)) (i % 3)
  rw [show (k * 3 + i) % 3 = i % 3 by omega, show (k * 3 + i) / 3 = k + i / 3 by omega]
theorem vcell_congr {f g : Nat → V3} {n : Nat} (h : ∀ i, i < n → f i = g i) : ∀ i, i < n * 3 → vcell f i = vcell g i := fun i hi => by
  show vpart (f (i / 3)) (i % 3) = vpart (g (i / 3)) (i % 3)
  rw [h (i / 3) (by omega)]
/-- One list of values behind another. -/
def afterV (n : Nat) (f v : Nat → V3) : Nat → V3 := fun i => if i < n then f i else v (i - n)
theorem after_vcell (n : Nat) (f v : Nat → V3) : after (n * 3) (vcell f) (vcell v) = vcell (afterV n f v) := by
  funext i
  show (if i < n * 3 then vpart (f (i / 3)) (i % 3) else vpart (v ((i - n * 3) / 3)) ((i - n * 3) % 3)) = vpart (if i / 3 < n then f (i / 3) else v (i / 3 - n)) (i % 3)
  by_cases h : i < n * 3
  · rw [if_pos h, if_pos (by omega)]
  · rw [if_neg h, if_neg (by omega), show (i - n * 3) % 3 = i % 3 by omega, show (i - n * 3) / 3 = i / 3 - n by omega]
/-- What copy lays over values. -/
def overV (f : Nat → V3) (a n : Nat) (v : Nat → V3) : Nat → V3 := fun i => if a ≤ i ∧ i < a + n then v (i - a) else f i
theorem overlay_vcell (f : Nat → V3) (a n : Nat) (v : Nat → V3) : overlay (a * 3) (n * 3) (vcell v) (vcell f) = vcell (overV f a n v) := by
  funext i
  show (if a * 3 ≤ i ∧ i < a * 3 + n * 3 then vpart (v ((i - a * 3) / 3)) ((i - a * 3) % 3) else vpart (f (i / 3)) (i % 3)) = vpart (if a ≤ i / 3 ∧ i / 3 < a + n then v (i / 3 - a) else f (i / 3)) (i % 3)
  by_cases h : a * 3 ≤ i ∧ i < a * 3 + n * 3
  · rw [if_pos h, if_pos (by omega), show (i - a * 3) % 3 = i % 3 by omega, show (i - a * 3) / 3 = i / 3 - a by omega]
  · rw [if_neg h, if_neg (by omega)]
end Go.Proofs.Ytlnkdnmeikpckaa
