/- A list of acts that came in; both, whatever the act; New of both kinds. No condition. -/
import Derived.Test.YtpeekldngelkkaaTabW
import Derived.Test.YtpeekldngelkkaaTabU
namespace Go.Proofs.Ytpeekldngelkkaa
open Go.ChangeShapes Go.WideShapes Go.ChangeAt Go.RowKit Go.Joins

theorem vals_of_rd {H : Type} {enc : TypeId × Value → H} {W : World} {ws : List Nat} {A : Option Addr} {n c : Nat} (h : RdSl enc W 43 3 24 A n c ws) : ∃ v : Nat → V3, Sl W A (n * 3) (vcell v) := by
  rcases Nat.eq_zero_or_pos n with h0 | hpos
  · subst h0
    exact ⟨fun _ => ⟨0, 0, 0⟩, Sl.nil _⟩
  obtain ⟨b, o, rfl, hel⟩ := h.el hpos
  have each : ∀ i, ∃ a : V3, i < n → ∀ j, j < 3 → W.cell? ⟨b, o + i * 3 + j, none⟩ = some (vpart a j) := fun i => by
    by_cases hi : i < n
    · obtain ⟨cs, _, hc, hr⟩ := hel i hi
      obtain ⟨t, lo, hh, rfl, _⟩ := dec_VAL hr
      refine ⟨⟨t, lo, hh⟩, fun _ j hj => ?_⟩
      rw [hc j hj]
      match j, hj with
      | 0, _ => rfl
      | 1, _ => rfl
      | 2, _ => rfl
    · exact ⟨⟨0, 0, 0⟩, fun h => absurd h hi⟩
  obtain ⟨v, hv⟩ := Classical.axiomOfChoice each
  refine ⟨v, fun _ => ⟨b, o, rfl, fun i hi => ?_⟩⟩
  have h5 := hv (i / 3) (by omega) (i % 3) (by omega)
  rw [show o + i / 3 * 3 + i % 3 = o + i by omega] at h5
  exact h5

/-- An act. -/
structure ActT where
  d : Int
  s : Bool
  o : Bool
  a : Nat
  fr : Nat
  k : Nat
  x : V3
  L : Option Addr
  m : Nat
  c : Nat
  v : Nat → V3

def ActT.cells (a : ActT) : List Value := [.int .i64 a.d, .bool a.s, .bool a.o, .int .u32 (a.a : Int), .int .u32 (a.fr : Int), .int .u32 (a.k : Int), .int .u8 a.x.t, .int .u64 a.x.lo, .int .u64 a.x.hi, .slice a.L a.m a.c]

structure ActOkT (w : World) (B : Nat) (a : ActT) : Prop where
  ha : a.a ≤ 4294967295
  hf : a.fr ≤ 4294967295
  hk : a.k ≤ 4294967295
  sl : SlB B w a.L (a.m * 3) (vcell a.v)
  z : a.L = none → a.m = 0
  mB : a.m * 24 ≤ 140737488351232
  mc : a.m ≤ a.c

/-- A list of acts that came in. -/
structure ActsT (w : World) (L : Option Addr) (l : Nat) (a : Nat → ActT) : Prop where
  acts : 0 < l → ∃ b o, L = some ⟨b, o, none⟩ ∧ b < w.heap.size ∧ ∀ i, i < l → (∀ j, j < 10 → w.cell? ⟨b, o + i * 10 + j, none⟩ = (a i).cells[j]?) ∧ ActOkT w w.heap.size (a i)
  len : l ≤ 9223372036854775807

theorem acts_of_rd {H : Type} {enc : TypeId × Value → H} {W : World} {ws : List Nat} {A : Option Addr} {n c : Nat} (h : Rd enc W 57 [.slice A n c] ws) (hws : ∀ q ∈ ws, q ≤ reachBytes) : ∃ a, ActsT W A n a := by
  have hs := rd_slice (sz := 10) (bytes := Try.prog.bytesOf 62) Try.underlying57 (by kernel_rfl) rfl (by omega) h
  have hlen : n ≤ 9223372036854775807 := by have := hs.le; have := hs.cm; unfold maxLen at this; omega
  rcases Nat.eq_zero_or_pos n with h0 | hpos
  · subst h0
    exact ⟨fun _ => ⟨0, false, false, 0, 0, 0, ⟨0, 0, 0⟩, none, 0, 0, fun _ => ⟨0, 0, 0⟩⟩, fun h => absurd h (by omega), by omega⟩
  obtain ⟨b, o, rfl, hel⟩ := hs.el hpos
  have each : ∀ i, ∃ a : ActT, i < n → (∀ j, j < 10 → W.cell? ⟨b, o + i * 10 + j, none⟩ = a.cells[j]?) ∧ ActOkT W W.heap.size a := fun i => by
    by_cases hi : i < n
    · obtain ⟨cs, _, hc, hr⟩ := hel i hi
      obtain ⟨d, s, q, a, fr, k, t, lo, hh, A, m, c, rfl, _, ha, hf, hk, _, _, _, hv⟩ := dec_ACT hr
      have hsv := rd_slice (sz := 3) (bytes := 24) Try.underlying24 (by kernel_rfl) (by kernel_rfl) (by omega) hv
      obtain ⟨v, hsl⟩ := vals_of_rd hsv
      obtain ⟨a, rfl⟩ := Int.eq_ofNat_of_zero_le ha.1
      obtain ⟨fr, rfl⟩ := Int.eq_ofNat_of_zero_le hf.1
      obtain ⟨k, rfl⟩ := Int.eq_ofNat_of_zero_le hk.1
      have hmB := hsv.wt hws
      have hle := hsv.le
      exact ⟨⟨d, s, q, a, fr, k, ⟨t, lo, hh⟩, A, m, c, v⟩, fun _ => ⟨hc, by have := ha.2; show a ≤ _; omega, by have := hf.2; show fr ≤ _; omega, by have := hk.2; show k ≤ _; omega, hsl.slb, fun h => by have := hsv.z h; show m = 0; omega, hmB, hle⟩⟩
    · exact ⟨⟨0, false, false, 0, 0, 0, ⟨0, 0, 0⟩, none, 0, 0, fun _ => ⟨0, 0, 0⟩⟩, fun h => absurd h hi⟩
  obtain ⟨a, ha⟩ := Classical.axiomOfChoice each
  have hlt : b < W.heap.size := by
    have h1 := (ha 0 hpos).1 0 (by omega)
    exact World.block_lt_of_cell? _ _ h1
  exact ⟨a, fun _ => ⟨b, o, rfl, hlt, ha⟩, hlen⟩

section
variable {w : World} {B tp rp tq rq : Nat} {mn mn2 : Int} {lt lr lt2 lr2 : Value} {s q : PT}

theorem both_any (a : ActT) (h : PairAt w B tp rp mn lt lr s) (hq : PairAt w B tq rq mn2 lt2 lr2 q) (dis : ∀ i, SP tp rp lt lr i → ¬ SP tq rq lt2 lr2 i) (hact : ActOkT w B a) :
    Calls Try.prog 24 #[.pointer (some ⟨tp, 0, none⟩), .pointer (some ⟨tq, 0, none⟩), .pointer (some ⟨rp, 0, none⟩), .pointer (some ⟨rq, 0, none⟩), .agg a.cells.toArray] w fun e w' => e = .returned (.bool true) ∧ ∃ s' lt' lr', Stepped w w' B tp rp mn lt lr s lt' lr' s' := by
  obtain ⟨d, s2, o2, a, fr, k, x, L, m, c, v⟩ := a
  by_cases h0 : d = 0
  · subst h0
    refine (both_get _ _ s2 o2 a fr k x L m c h hact.ha 0 rfl).mono ?_
    rintro e w1 ⟨rfl, hk⟩
    exact ⟨rfl, _, _, _, h.same hk⟩
  by_cases h1 : d = 1
  · subst h1
    exact both_set _ _ s2 o2 a fr k x L m c h hact.ha
  by_cases h2 : d = 2
  · subst h2
    exact both_grow _ _ s2 o2 a fr k x L m c h hact.hk
  by_cases h3 : d = 3
  · subst h3
    exact both_fill _ _ s2 o2 a fr k x L m c h hact.ha hact.hk
  by_cases h4 : d = 4
  · subst h4
    exact both_init _ _ s2 o2 a fr k x L m c v h hact.ha hact.hf hact.hk hact.sl hact.z hact.mB hact.mc
  cases o2 with
  | false => exact both_self s2 a fr k x L m c d h (beq_eq_false_iff_ne.2 h0) (beq_eq_false_iff_ne.2 h1) (beq_eq_false_iff_ne.2 h2) (beq_eq_false_iff_ne.2 h3) (beq_eq_false_iff_ne.2 h4) hact.ha hact.hf hact.hk
  | true => exact both_other s2 a fr k x L m c d h hq dis (beq_eq_false_iff_ne.2 h0) (beq_eq_false_iff_ne.2 h1) (beq_eq_false_iff_ne.2 h2) (beq_eq_false_iff_ne.2 h3) (beq_eq_false_iff_ne.2 h4) hact.ha hact.hf hact.hk
end

/-- What New answers. -/
def newE (el mn mx : Int) (bd : Bool) (x : V3) : Int := if mayTabB el mn mx bd = true ∧ fitB x.t x.lo x.hi el = true then (if mn ≤ 16384 then 0 else 3) else 2

section
variable (el mn mx : Int) (bd : Bool) (x : V3) (w : World)

theorem new_bad (h1 : 0 ≤ mn) (h2 : mn ≤ 4294967295) (h3 : 0 ≤ mx) (h4 : mx ≤ 4294967295) (hE : newE el mn mx bd x ≠ 0) :
    Calls Try.prog 14 #[.agg #[.int .u8 el, .int .u32 mn, .int .u32 mx, .bool bd], .agg #[.int .u8 x.t, .int .u64 x.lo, .int .u64 x.hi]] w fun e w' => e = .returned (.tuple #[.pointer none, .int .i64 (newE el mn mx bd x)]) ∧ Kept S0 w w' := by
  unfold newE at hE ⊢
  by_cases h : mayTabB el mn mx bd = true ∧ fitB x.t x.lo x.hi el = true
  · rw [if_pos h] at hE ⊢
    by_cases hm : mn ≤ 16384
    · rw [if_pos hm] at hE; exact absurd rfl hE
    · rw [if_neg hm]
      exact newtab_limit el mn mx x.t x.lo x.hi bd w (by omega) h2 h3 h4 h.1 h.2
  · rw [if_neg h]
    refine newtab_arg el mn mx x.t x.lo x.hi bd w h1 h2 h3 h4 ?_
    cases hh : mayTabB el mn mx bd with
    | false => exact .inl rfl
    | true =>
      cases hf : fitB x.t x.lo x.hi el with
      | false => exact .inr rfl
      | true => exact absurd ⟨hh, hf⟩ h

theorem rnew_bad (h1 : 0 ≤ mn) (h2 : mn ≤ 4294967295) (h3 : 0 ≤ mx) (h4 : mx ≤ 4294967295) (hE : newE el mn mx bd x ≠ 0) :
    Calls Try.prog 23 #[.agg #[.int .u8 el, .int .u32 mn, .int .u32 mx, .bool bd], .agg #[.int .u8 x.t, .int .u64 x.lo, .int .u64 x.hi]] w fun e w' => e = .returned (.tuple #[.pointer none, .int .i64 (newE el mn mx bd x)]) ∧ Kept S0 w w' := by
  unfold newE at hE ⊢
  by_cases h : mayTabB el mn mx bd = true ∧ fitB x.t x.lo x.hi el = true
  · rw [if_pos h] at hE ⊢
    by_cases hm : mn ≤ 16384
    · rw [if_pos hm] at hE; exact absurd rfl hE
    · rw [if_neg hm]
      exact rnew_limit el mn mx x.t x.lo x.hi bd w (by omega) h2 h3 h4 h.1 h.2
  · rw [if_neg h]
    refine rnew_arg el mn mx x.t x.lo x.hi bd w h1 h2 h3 h4 ?_
    cases hh : mayTabB el mn mx bd with
    | false => exact .inl rfl
    | true =>
      cases hf : fitB x.t x.lo x.hi el with
      | false => exact .inr rfl
      | true => exact absurd ⟨hh, hf⟩ h

theorem new_ok (hE : newE el mn mx bd x = 0) : mayTabB el mn mx bd = true ∧ fitB x.t x.lo x.hi el = true ∧ mn ≤ 16384 := by
  unfold newE at hE
  by_cases h : mayTabB el mn mx bd = true ∧ fitB x.t x.lo x.hi el = true
  · rw [if_pos h] at hE
    by_cases hm : mn ≤ 16384
    · exact ⟨h.1, h.2, hm⟩
    · rw [if_neg hm] at hE; cases hE
  · rw [if_neg h] at hE; cases hE
end
end Go.Proofs.Ytpeekldngelkkaa
