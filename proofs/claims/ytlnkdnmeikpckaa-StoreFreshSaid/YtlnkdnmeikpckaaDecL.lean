/- How lists of types, values and bytes read. No condition. -/
import Derived.Test.YtlnkdnmeikpckaaDecSt
import Derived.Test.YtlnkdnmeikpckaaLStF
namespace Go.Proofs.Ytlnkdnmeikpckaa
open Go.ChangeShapes Go.WideShapes Go.ChangeAt Go.RowKit Go.Joins

theorem vals_of_rd {H : Type} {enc : TypeId × Value → H} {W : World} {ws : List Nat} {A : Option Addr} {n c : Nat} (h : RdSl enc W 40 3 24 A n c ws) : ∃ v : Nat → V3, Sl W A (n * 3) (vcell v) := by
  rcases Nat.eq_zero_or_pos n with h0 | hpos
  · subst h0
    exact ⟨fun _ => ⟨0, 0, 0⟩, Sl.nil _⟩
  obtain ⟨b, o, rfl, hel⟩ := h.el hpos
  have each : ∀ i, ∃ a : V3, i < n → ∀ j, j < 3 → W.cell? ⟨b, o + i * 3 + j, none⟩ = some (vpart a j) := fun i => by
    by_cases hi : i < n
    · obtain ⟨cs, _, hc, hr⟩ := hel i hi
      obtain ⟨t, lo, hh, rfl, _⟩ := dec_VAL hr
      refine ⟨⟨t, lo, hh⟩, fun _ j hj => ?_⟩
      rw [hc j hj]
      match j, hj with
      | 0, _ => rfl
      | 1, _ => rfl
      | 2, _ => rfl
    · exact ⟨⟨0, 0, 0⟩, fun h => absurd h hi⟩
  obtain ⟨v, hv⟩ := Classical.axiomOfChoice each
  refine ⟨v, fun _ => ⟨b, o, rfl, fun i hi => ?_⟩⟩
  have h5 := hv (i / 3) (by omega) (i % 3) (by omega)
  rw [show o + i / 3 * 3 + i % 3 = o + i by omega] at h5
  exact h5

theorem bytes_of_rd {H : Type} {enc : TypeId × Value → H} {W : World} {ws : List Nat} {A : Option Addr} {n c : Nat} (h : RdSl enc W 5 1 1 A n c ws) : ∃ v : Nat → UInt8, Sl W A n (byteV v) := by
  rcases Nat.eq_zero_or_pos n with h0 | hpos
  · subst h0
    exact ⟨fun _ => 0, Sl.nil _⟩
  obtain ⟨b, o, rfl, hel⟩ := h.el hpos
  have each : ∀ i, ∃ a : UInt8, i < n → W.cell? ⟨b, o + i, none⟩ = some (.int .u8 (a.toNat : Int)) := fun i => by
    by_cases hi : i < n
    · obtain ⟨cs, _, hc, hr⟩ := hel i hi
      obtain ⟨x, rfl, hw⟩ := rd_int Try.underlying5 hr
      have hb := bounds_u8 hw
      refine ⟨UInt8.ofNat x.toNat, fun _ => ?_⟩
      have h0 := hc 0 (by omega)
      rw [Nat.mul_one, Nat.add_zero] at h0
      rw [h0]
      have : ((UInt8.ofNat x.toNat).toNat : Int) = x := by rw [UInt8.toNat_ofNat']; omega
      rw [this]; rfl
    · exact ⟨0, fun h => absurd h hi⟩
  obtain ⟨v, hv⟩ := Classical.axiomOfChoice each
  exact ⟨v, fun _ => ⟨b, o, rfl, fun i hi => hv i hi⟩⟩

theorem types_of_rd {H : Type} {enc : TypeId × Value → H} {W : World} {ws : List Nat} {A : Option Addr} {n c : Nat} (h : RdSl enc W 37 1 1 A n c ws) : ∃ v : Nat → UInt8, Sl W A n (byteV v) := by
  rcases Nat.eq_zero_or_pos n with h0 | hpos
  · subst h0
    exact ⟨fun _ => 0, Sl.nil _⟩
  obtain ⟨b, o, rfl, hel⟩ := h.el hpos
  have each : ∀ i, ∃ a : UInt8, i < n → W.cell? ⟨b, o + i, none⟩ = some (.int .u8 (a.toNat : Int)) := fun i => by
    by_cases hi : i < n
    · obtain ⟨cs, _, hc, hr⟩ := hel i hi
      obtain ⟨x, rfl, hw⟩ := rd_int Try.underlying37 hr
      have hb := bounds_u8 hw
      refine ⟨UInt8.ofNat x.toNat, fun _ => ?_⟩
      have h0 := hc 0 (by omega)
      rw [Nat.mul_one, Nat.add_zero] at h0
      rw [h0]
      have : ((UInt8.ofNat x.toNat).toNat : Int) = x := by rw [UInt8.toNat_ofNat']; omega
      rw [this]; rfl
    · exact ⟨0, fun h => absurd h hi⟩
  obtain ⟨v, hv⟩ := Classical.axiomOfChoice each
  exact ⟨v, fun _ => ⟨b, o, rfl, fun i hi => hv i hi⟩⟩

section
variable {H : Type} {enc : TypeId × Value → H} {W : World} {ws : List Nat} {A : Option Addr} {n c : Nat}
theorem tsl_rd (h : Rd enc W 22 [.slice A n c] ws) (hws : ∀ q ∈ ws, q ≤ reachBytes) : ∃ v, TSl W A n c v := by
  have hs := rd_slice (sz := 1) (bytes := 1) Try.underlying22 (by kernel_rfl) (by kernel_rfl) (by omega) h
  obtain ⟨v, hv⟩ := types_of_rd hs
  exact ⟨v, hv, fun e => ⟨by have := hs.z e; have := hs.le; omega, hs.z e⟩, by have := hs.wt hws; omega⟩
theorem bsl_rd (h : Rd enc W 26 [.slice A n c] ws) (hws : ∀ q ∈ ws, q ≤ reachBytes) : ∃ v, LSl W 1 1 A n c (byteV v) := by
  have hs := rd_slice (sz := 1) (bytes := 1) Try.underlying26 (by kernel_rfl) (by kernel_rfl) (by omega) h
  obtain ⟨v, hv⟩ := bytes_of_rd hs
  exact ⟨v, by rw [Nat.mul_one]; exact hv, fun e => ⟨by have := hs.z e; have := hs.le; omega, hs.z e⟩, hs.wt hws⟩
theorem vsl_rd (h : Rd enc W 25 [.slice A n c] ws) (hws : ∀ q ∈ ws, q ≤ reachBytes) : ∃ v, LSl W 3 24 A n c (vcell v) := by
  have hs := rd_slice (sz := 3) (bytes := 24) Try.underlying25 (by kernel_rfl) (by kernel_rfl) (by omega) h
  obtain ⟨v, hv⟩ := vals_of_rd hs
  exact ⟨v, hv, fun e => ⟨by have := hs.z e; have := hs.le; omega, hs.z e⟩, hs.wt hws⟩
end
end Go.Proofs.Ytlnkdnmeikpckaa
