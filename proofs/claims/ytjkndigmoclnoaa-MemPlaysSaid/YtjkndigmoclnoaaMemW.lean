/- How a list of Acts of the statements over memories reads. No condition. -/
import Derived.Test.YtjkndigmoclnoaaDec
import Derived.Test.YtjkndigmoclnoaaMBothA
import Derived.Test.YtjkndigmoclnoaaMBothB
import Derived.Test.YtjkndigmoclnoaaMBothC
import Derived.Test.YtjkndigmoclnoaaMBothD
namespace Go.Proofs.Ytjkndigmoclnoaa
open Go.ChangeShapes Go.WideShapes Go.ChangeAt Go.RowKit Go.Joins

theorem dec_LIM {H : Type} {enc : TypeId × Value → H} {W : World} {ws : List Nat} {cs : List Value} (h : Rd enc W 24 cs ws) : ∃ (mn : Int) (mx : Int) (bd : Bool), cs = [.int .u32 mn, .int .u32 mx, .bool bd] ∧ (0 ≤ mn ∧ mn ≤ 4294967295) ∧ (0 ≤ mx ∧ mx ≤ 4294967295) := by
  obtain ⟨hl, hf⟩ := rd_struct (n := 3) Try.underlying24 (by kernel_rfl) h
  match cs, hl with
  | [k0, k1, k2], _ =>
    have g0 : Rd enc W 22 [k0] ws := by
      have h : Rd enc W 22 (([k0, k1, k2].drop 0).take (Try.prog.cellsOf 22)) ws := hf 0 _ rfl
      rw [show Try.prog.cellsOf 22 = 1 from by kernel_rfl] at h
      exact h
    obtain ⟨mn, e0, p0⟩ := rd_int Try.underlying22 g0
    have g1 : Rd enc W 22 [k1] ws := by
      have h : Rd enc W 22 (([k0, k1, k2].drop 1).take (Try.prog.cellsOf 22)) ws := hf 1 _ rfl
      rw [show Try.prog.cellsOf 22 = 1 from by kernel_rfl] at h
      exact h
    obtain ⟨mx, e1, p1⟩ := rd_int Try.underlying22 g1
    have g2 : Rd enc W 4 [k2] ws := by
      have h : Rd enc W 4 (([k0, k1, k2].drop 2).take (Try.prog.cellsOf 4)) ws := hf 2 _ rfl
      rw [show Try.prog.cellsOf 4 = 1 from by kernel_rfl] at h
      exact h
    obtain ⟨bd, e2⟩ := rd_bool Try.underlying4 g2
    simp only [List.cons.injEq, and_true] at e0 e1 e2
    refine ⟨mn, mx, bd, ?_, bounds_u32 p0, bounds_u32 p1⟩
    simp [e0, e1, e2]

theorem dec_VEC {H : Type} {enc : TypeId × Value → H} {W : World} {ws : List Nat} {cs : List Value} (h : Rd enc W 47 cs ws) : ∃ (lo : Int) (hi : Int), cs = [.int .u64 lo, .int .u64 hi] ∧ (0 ≤ lo ∧ lo ≤ 18446744073709551615) ∧ (0 ≤ hi ∧ hi ≤ 18446744073709551615) := by
  obtain ⟨hl, hf⟩ := rd_struct (n := 2) Try.underlying47 (by kernel_rfl) h
  match cs, hl with
  | [k0, k1], _ =>
    have g0 : Rd enc W 32 [k0] ws := by
      have h : Rd enc W 32 (([k0, k1].drop 0).take (Try.prog.cellsOf 32)) ws := hf 0 _ rfl
      rw [show Try.prog.cellsOf 32 = 1 from by kernel_rfl] at h
      exact h
    obtain ⟨lo, e0, p0⟩ := rd_int Try.underlying32 g0
    have g1 : Rd enc W 32 [k1] ws := by
      have h : Rd enc W 32 (([k0, k1].drop 1).take (Try.prog.cellsOf 32)) ws := hf 1 _ rfl
      rw [show Try.prog.cellsOf 32 = 1 from by kernel_rfl] at h
      exact h
    obtain ⟨hi, e1, p1⟩ := rd_int Try.underlying32 g1
    simp only [List.cons.injEq, and_true] at e0 e1
    refine ⟨lo, hi, ?_, bounds_u64 p0, bounds_u64 p1⟩
    simp [e0, e1]

theorem dec_ACT {H : Type} {enc : TypeId × Value → H} {W : World} {ws : List Nat} {cs : List Value} (h : Rd enc W 62 cs ws) : ∃ (d : Int) (a : Int) (fr : Int) (k : Int) (s : Int) (x_lo : Int) (x_hi : Int) (L_A : Option Addr) (L_n L_c : Nat), cs = [.int .i64 d, .int .u64 a, .int .u64 fr, .int .u64 k, .int .i64 s, .int .u64 x_lo, .int .u64 x_hi, .slice L_A L_n L_c] ∧ (-9223372036854775808 ≤ d ∧ d ≤ 9223372036854775807) ∧ (0 ≤ a ∧ a ≤ 18446744073709551615) ∧ (0 ≤ fr ∧ fr ≤ 18446744073709551615) ∧ (0 ≤ k ∧ k ≤ 18446744073709551615) ∧ (-9223372036854775808 ≤ s ∧ s ≤ 9223372036854775807) ∧ (0 ≤ x_lo ∧ x_lo ≤ 18446744073709551615) ∧ (0 ≤ x_hi ∧ x_hi ≤ 18446744073709551615) ∧ Rd enc W 36 [.slice L_A L_n L_c] ws := by
  obtain ⟨hl, hf⟩ := rd_struct (n := 8) Try.underlying62 (by kernel_rfl) h
  match cs, hl with
  | [k0, k1, k2, k3, k4, k5, k6, k7], _ =>
    have g0 : Rd enc W 3 [k0] ws := by
      have h : Rd enc W 3 (([k0, k1, k2, k3, k4, k5, k6, k7].drop 0).take (Try.prog.cellsOf 3)) ws := hf 0 _ rfl
      rw [show Try.prog.cellsOf 3 = 1 from by kernel_rfl] at h
      exact h
    obtain ⟨d, e0, p0⟩ := rd_int Try.underlying3 g0
    have g1 : Rd enc W 32 [k1] ws := by
      have h : Rd enc W 32 (([k0, k1, k2, k3, k4, k5, k6, k7].drop 1).take (Try.prog.cellsOf 32)) ws := hf 1 _ rfl
      rw [show Try.prog.cellsOf 32 = 1 from by kernel_rfl] at h
      exact h
    obtain ⟨a, e1, p1⟩ := rd_int Try.underlying32 g1
    have g2 : Rd enc W 32 [k2] ws := by
      have h : Rd enc W 32 (([k0, k1, k2, k3, k4, k5, k6, k7].drop 2).take (Try.prog.cellsOf 32)) ws := hf 2 _ rfl
      rw [show Try.prog.cellsOf 32 = 1 from by kernel_rfl] at h
      exact h
    obtain ⟨fr, e2, p2⟩ := rd_int Try.underlying32 g2
    have g3 : Rd enc W 32 [k3] ws := by
      have h : Rd enc W 32 (([k0, k1, k2, k3, k4, k5, k6, k7].drop 3).take (Try.prog.cellsOf 32)) ws := hf 3 _ rfl
      rw [show Try.prog.cellsOf 32 = 1 from by kernel_rfl] at h
      exact h
    obtain ⟨k, e3, p3⟩ := rd_int Try.underlying32 g3
    have g4 : Rd enc W 3 [k4] ws := by
      have h : Rd enc W 3 (([k0, k1, k2, k3, k4, k5, k6, k7].drop 4).take (Try.prog.cellsOf 3)) ws := hf 4 _ rfl
      rw [show Try.prog.cellsOf 3 = 1 from by kernel_rfl] at h
      exact h
    obtain ⟨s, e4, p4⟩ := rd_int Try.underlying3 g4
    have g5 : Rd enc W 47 [k5, k6] ws := by
      have h : Rd enc W 47 (([k0, k1, k2, k3, k4, k5, k6, k7].drop 5).take (Try.prog.cellsOf 47)) ws := hf 5 _ rfl
      rw [show Try.prog.cellsOf 47 = 2 from by kernel_rfl] at h
      exact h
    obtain ⟨x_lo, x_hi, e5, p5_0, p5_1⟩ := dec_VEC g5
    have g6 : Rd enc W 36 [k7] ws := by
      have h : Rd enc W 36 (([k0, k1, k2, k3, k4, k5, k6, k7].drop 7).take (Try.prog.cellsOf 36)) ws := hf 6 _ rfl
      rw [show Try.prog.cellsOf 36 = 1 from by kernel_rfl] at h
      exact h
    obtain ⟨L_A, L_n, L_c, e6⟩ := rd_slice_shape Try.underlying36 g6
    rw [e6] at g6
    simp only [List.cons.injEq, and_true] at e0 e1 e2 e3 e4 e5 e6
    refine ⟨d, a, fr, k, s, x_lo, x_hi, L_A, L_n, L_c, ?_, bounds_i64 p0, bounds_u64 p1, bounds_u64 p2, bounds_u64 p3, bounds_i64 p4, p5_0, p5_1, g6⟩
    simp [e0, e1, e2, e3, e4, e5, e6]


theorem bytes_of_rd {H : Type} {enc : TypeId × Value → H} {W : World} {ws : List Nat} {A : Option Addr} {n c : Nat} (h : RdSl enc W 5 1 1 A n c ws) : ∃ v : Nat → UInt8, Sl W A n (byteV v) := by
  rcases Nat.eq_zero_or_pos n with h0 | hpos
  · subst h0
    exact ⟨fun _ => 0, Sl.nil _⟩
  obtain ⟨b, o, rfl, hel⟩ := h.el hpos
  have each : ∀ i, ∃ a : UInt8, i < n → W.cell? ⟨b, o + i, none⟩ = some (.int .u8 (a.toNat : Int)) := fun i => by
    by_cases hi : i < n
    · obtain ⟨cs, _, hc, hr⟩ := hel i hi
      obtain ⟨x, rfl, hw⟩ := rd_int Try.underlying5 hr
      have hb := bounds_u8 hw
      refine ⟨UInt8.ofNat x.toNat, fun _ => ?_⟩
      have h0 := hc 0 (by omega)
      rw [Nat.mul_one, Nat.add_zero] at h0
      rw [h0]
      have : ((UInt8.ofNat x.toNat).toNat : Int) = x := by rw [UInt8.toNat_ofNat']; omega
      rw [this]; rfl
    · exact ⟨0, fun h => absurd h hi⟩
  obtain ⟨v, hv⟩ := Classical.axiomOfChoice each
  exact ⟨v, fun _ => ⟨b, o, rfl, fun i hi => hv i hi⟩⟩

/-- An act. -/
structure ActM where
  d : Int
  a : Nat
  fr : Nat
  k : Nat
  s : Int
  lo : Nat
  hi : Nat
  L : Option Addr
  m : Nat
  c : Nat
  v : Nat → UInt8

def ActM.cells (a : ActM) : List Value := [.int .i64 a.d, .int .u64 (a.a : Int), .int .u64 (a.fr : Int), .int .u64 (a.k : Int), .int .i64 a.s, .int .u64 (a.lo : Int), .int .u64 (a.hi : Int), .slice a.L a.m a.c]

structure ActOkM (w : World) (B : Nat) (a : ActM) : Prop where
  ha : a.a ≤ 18446744073709551615
  hf : a.fr ≤ 18446744073709551615
  hk : a.k ≤ 18446744073709551615
  hlo : a.lo ≤ 18446744073709551615
  hhi : a.hi ≤ 18446744073709551615
  hs : a.s ≤ 9223372036854775807
  sl : SlB B w a.L a.m (byteV a.v)
  mB : a.m ≤ 140737488351232

structure ActsM (w : World) (L : Option Addr) (l : Nat) (a : Nat → ActM) : Prop where
  acts : 0 < l → ∃ b o, L = some ⟨b, o, none⟩ ∧ b < w.heap.size ∧ ∀ i, i < l → (∀ j, j < 8 → w.cell? ⟨b, o + i * 8 + j, none⟩ = (a i).cells[j]?) ∧ ActOkM w w.heap.size (a i)
  len : l ≤ 9223372036854775807

theorem acts_of_rd {H : Type} {enc : TypeId × Value → H} {W : World} {ws : List Nat} {A : Option Addr} {n c : Nat} (h : Rd enc W 56 [.slice A n c] ws) (hws : ∀ q ∈ ws, q ≤ reachBytes) : ∃ a, ActsM W A n a := by
  have hs := rd_slice (sz := 8) (bytes := Try.prog.bytesOf 62) Try.underlying56 (by kernel_rfl) rfl (by omega) h
  have hlen : n ≤ 9223372036854775807 := by have := hs.le; have := hs.cm; unfold maxLen at this; omega
  rcases Nat.eq_zero_or_pos n with h0 | hpos
  · subst h0
    exact ⟨fun _ => ⟨0, 0, 0, 0, 0, 0, 0, none, 0, 0, fun _ => 0⟩, fun h => absurd h (by omega), by omega⟩
  obtain ⟨b, o, rfl, hel⟩ := hs.el hpos
  have each : ∀ i, ∃ a : ActM, i < n → (∀ j, j < 8 → W.cell? ⟨b, o + i * 8 + j, none⟩ = a.cells[j]?) ∧ ActOkM W W.heap.size a := fun i => by
    by_cases hi : i < n
    · obtain ⟨cs, _, hc, hr⟩ := hel i hi
      obtain ⟨d, a, fr, k, s, lo, hh, A, m, c, rfl, _, ha, hf, hk, hss, hlo, hhi, hv⟩ := dec_ACT hr
      have hsv := rd_slice (sz := 1) (bytes := 1) Try.underlying36 (by kernel_rfl) (by kernel_rfl) (by omega) hv
      obtain ⟨v, hsl⟩ := bytes_of_rd hsv
      obtain ⟨a, rfl⟩ := Int.eq_ofNat_of_zero_le ha.1
      obtain ⟨fr, rfl⟩ := Int.eq_ofNat_of_zero_le hf.1
      obtain ⟨k, rfl⟩ := Int.eq_ofNat_of_zero_le hk.1
      obtain ⟨lo, rfl⟩ := Int.eq_ofNat_of_zero_le hlo.1
      obtain ⟨hh, rfl⟩ := Int.eq_ofNat_of_zero_le hhi.1
      have hmB := hsv.wt hws
      exact ⟨⟨d, a, fr, k, s, lo, hh, A, m, c, v⟩, fun _ => ⟨hc, by have := ha.2; show a ≤ _; omega, by have := hf.2; show fr ≤ _; omega, by have := hk.2; show k ≤ _; omega, by have := hlo.2; show lo ≤ _; omega, by have := hhi.2; show hh ≤ _; omega, hss.2, hsl.slb, by show m ≤ _; omega⟩⟩
    · exact ⟨⟨0, 0, 0, 0, 0, 0, 0, none, 0, 0, fun _ => 0⟩, fun h => absurd h hi⟩
  obtain ⟨a, ha⟩ := Classical.axiomOfChoice each
  have hlt : b < W.heap.size := by
    have h1 := (ha 0 hpos).1 0 (by omega)
    exact World.block_lt_of_cell? _ _ h1
  exact ⟨a, fun _ => ⟨b, o, rfl, hlt, ha⟩, hlen⟩

section
variable {w : World} {B pb bb rb : Nat} {mn mx : Int} {bd : Bool} {lr : Value} {P : Nat} {f : Nat → UInt8}
theorem both_any (a : ActM) (h : MPair w B pb bb rb mn lr mx bd P f) (hact : ActOkM w B a) :
    Calls Try.prog 24 #[.pointer (some ⟨pb, 0, none⟩), .pointer (some ⟨rb, 0, none⟩), .agg a.cells.toArray] w fun e w' => e = .returned (.bool true) ∧ ∃ bb' lr' P' f', MPair w' B pb bb' rb mn lr' mx bd P' f' ∧ Kept (SB B) w w' := by
  obtain ⟨d, a, fr, k, s, lo, hi, L, m, c, v⟩ := a
  by_cases h0 : d = 0
  · subst h0; exact both_load a fr k s lo hi L m c v h hact.ha hact.hf hact.hk hact.hlo hact.hhi hact.sl hact.mB
  by_cases h1 : d = 1
  · subst h1; exact both_store a fr k s lo hi L m c v h hact.ha hact.hf hact.hk hact.hlo hact.hhi hact.sl hact.mB
  by_cases h2 : d = 2
  · subst h2
    by_cases hs : s < 0
    · exact both_read_neg a fr k s lo hi L m c v h hact.ha hact.hf hact.hk hact.hlo hact.hhi hact.sl hact.mB hs
    · obtain ⟨n, rfl⟩ := Int.eq_ofNat_of_zero_le (show 0 ≤ s by omega)
      by_cases hin : a + n ≤ P * 65536
      · exact both_read_in a fr k _ lo hi L m c v h hact.ha hact.hf hact.hk hact.hlo hact.hhi hact.sl hact.mB n rfl hin
      · exact both_read_out a fr k _ lo hi L m c v h hact.ha hact.hf hact.hk hact.hlo hact.hhi hact.sl hact.mB n rfl (by have := hact.hs; have h3 : ((n : Int)) ≤ 9223372036854775807 := this; omega) hin
  by_cases h3 : d = 3
  · subst h3; exact both_write a fr k s lo hi L m c v h hact.ha hact.hf hact.hk hact.hlo hact.hhi hact.sl hact.mB
  by_cases h4 : d = 4
  · subst h4; exact both_fill a fr k s lo hi L m c v h hact.ha hact.hf hact.hk hact.hlo hact.hhi hact.sl hact.mB
  by_cases h5 : d = 5
  · subst h5; exact both_copy a fr k s lo hi L m c v h hact.ha hact.hf hact.hk hact.hlo hact.hhi hact.sl hact.mB
  by_cases h6 : d = 6
  · subst h6; exact both_init a fr k s lo hi L m c v h hact.ha hact.hf hact.hk hact.hlo hact.hhi hact.sl hact.mB
  exact both_grow a fr k s lo hi L m c v d (beq_eq_false_iff_ne.2 h0) (beq_eq_false_iff_ne.2 h1) (beq_eq_false_iff_ne.2 h2) (beq_eq_false_iff_ne.2 h3) (beq_eq_false_iff_ne.2 h4) (beq_eq_false_iff_ne.2 h5) (beq_eq_false_iff_ne.2 h6) h hact.ha hact.hf hact.hk hact.hlo hact.hhi hact.sl hact.mB
end
end Go.Proofs.Ytjkndigmoclnoaa
