/- Combined contracts of both kinds of memories. No condition. -/
import Derived.Test.YtjkndigmoclnoaaRMemD
import Derived.Test.YtjkndigmoclnoaaRMemE
import Derived.Test.YtjkndigmoclnoaaMemD
import Derived.Test.YtjkndigmoclnoaaMemE
namespace Go.Proofs.Ytjkndigmoclnoaa
open Go.RowKit

theorem keep0 {w w' : World} {p : Addr} {v : Value} (hk : Kept S0 w w') (h : w.cell? p = some v) : w'.cell? p = some v := (hk.cell (World.block_lt_of_cell? _ _ h) (fun x => x)).trans h

/-- All blocks from a number on. -/
def SB (B : Nat) : Nat → Prop := fun i => B ≤ i

structure MPair (w : World) (B pb bb rb : Nat) (mn : Int) (lr : Value) (mx : Int) (bd : Bool) (P : Nat) (f : Nat → UInt8) : Prop where
  mem : MemAt w pb bb (P * 65536) mn mx bd f
  ref : RMemAt w rb B (P * 65536) mn mx bd lr f
  hP : P ≤ 16
  h3 : 0 ≤ mx
  h4 : mx ≤ 4294967295
  hB : B ≤ w.heap.size
  lo1 : B ≤ pb
  lo2 : B ≤ bb
  dis : lr.ownBlock ≠ some bb

/-- The blocks of a pair. -/
def SP (pb bb rb : Nat) (lr : Value) : Nat → Prop := fun i => i = pb ∨ i = bb ∨ i = rb ∨ lr.ownBlock = some i

section
variable {w w1 w2 : World} {B pb bb rb bb' : Nat} {mn mx : Int} {bd : Bool} {lr lr' : Value} {P P' : Nat} {f f' : Nat → UInt8}
theorem MPair.ne1 (h : MPair w B pb bb rb mn lr mx bd P f) : pb ≠ rb := Blk.ne_ h.mem.obj h.ref.obj (by decide)
theorem MPair.ne2 (h : MPair w B pb bb rb mn lr mx bd P f) : bb ≠ rb := Row.ne h.mem.row h.ref.obj (by decide)
theorem MPair.ne3 (h : MPair w B pb bb rb mn lr mx bd P f) : lr.ownBlock ≠ some pb := h.ref.own.ne_blk h.mem.obj (by decide)
theorem MPair.kept0 (h : MPair w B pb bb rb mn lr mx bd P f) (hk : Kept S0 w w1) : MPair w1 B pb bb rb mn lr mx bd P f :=
  ⟨h.mem.kept0 hk, h.ref.kept0 hk, h.hP, h.h3, h.h4, Nat.le_trans h.hB hk.size, h.lo1, h.lo2, h.dis⟩
theorem MPair.away {S : Nat → Prop} (h : MPair w B pb bb rb mn lr mx bd P f) (hk : Kept S w w1) (hs : ∀ i, S i → ¬ SP pb bb rb lr i) : MPair w1 B pb bb rb mn lr mx bd P f :=
  ⟨h.mem.kept hk (fun e => hs _ e (.inl rfl)) (fun e => hs _ e (.inr (.inl rfl))), h.ref.kept hk (fun e => hs _ e (.inr (.inr (.inl rfl)))) (fun _ hg e => hs _ e (.inr (.inr (.inr hg)))), h.hP, h.h3, h.h4, Nat.le_trans h.hB hk.size, h.lo1, h.lo2, h.dis⟩
theorem MPair.low (h : MPair w B pb bb rb mn lr mx bd P f) : ∀ i, SP pb bb rb lr i → B ≤ i ∧ i < w.heap.size := fun i hi => by
  rcases hi with rfl | rfl | rfl | hi
  · exact ⟨h.lo1, h.mem.obj.lt⟩
  · exact ⟨h.lo2, h.mem.row.lt⟩
  · exact ⟨h.ref.lo, h.ref.obj.lt⟩
  · exact h.ref.own.lt _ hi
theorem MPair.ref1 (h : MPair w B pb bb rb mn lr mx bd P f) (hk : Kept (S2 pb bb) w w1) : RMemAt w1 rb B (P * 65536) mn mx bd lr f :=
  h.ref.kept hk (fun e => e.elim (fun e => h.ne1 e.symm) (fun e => h.ne2 e.symm)) (fun _ hg e => e.elim (fun e => h.ne3 (e ▸ hg)) (fun e => h.dis (e ▸ hg)))
theorem MPair.step (h : MPair w B pb bb rb mn lr mx bd P f) (ht : MemAt w1 pb bb' (P' * 65536) mn mx bd f') (hk1 : Kept (S2 pb bb) w w1) (hb1 : bb' = bb ∨ w.heap.size ≤ bb')
    (hr : RMemAt w2 rb B (P' * 65536) mn mx bd lr' f') (hk2 : Kept (ST rb lr) w1 w2) (hb2 : lr'.ownBlock = lr.ownBlock ∨ ∃ g, lr'.ownBlock = some g ∧ w1.heap.size ≤ g) (hP : P' ≤ 16) :
    MPair w2 B pb bb' rb mn lr' mx bd P' f' ∧ Kept (SB B) w w2 := by
  have hr1 := h.ref1 hk1
  have hbb : bb' < w1.heap.size := ht.row.lt
  have hbr : lr.ownBlock ≠ some bb' := fun e => by
    rcases hb1 with h1 | h1
    · exact h.dis (h1 ▸ e)
    · have := (h.ref.own.lt _ e).2; omega
  have hbrb : bb' ≠ rb := Row.ne ht.row hr1.obj (by decide)
  refine ⟨⟨ht.kept hk2 (fun e => e.elim h.ne1 (fun e => h.ne3 e)) (fun e => e.elim hbrb (fun e => hbr e)), hr, hP, h.h3, h.h4, Nat.le_trans h.hB (Nat.le_trans hk1.size hk2.size), h.lo1, ?_, fun e => ?_⟩, (hk1.mono (fun i e => ?_)).trans (hk2.mono (fun i e => ?_))⟩
  · rcases hb1 with h1 | h1
    · rw [h1]; exact h.lo2
    · exact Nat.le_trans h.hB h1
  · rcases hb2 with h1 | ⟨g, h1, h2⟩
    · exact hbr (h1 ▸ e)
    · rw [h1] at e; cases e; omega
  · rcases e with e | e
    · have : i = pb := e
      rw [this]; exact h.lo1
    · have : i = bb := e
      rw [this]; exact h.lo2
  · rcases e with e | e
    · rw [e]; exact h.ref.lo
    · exact (h.ref.own.lt i e).1

theorem Kept.s1b {pb bb : Nat} (h : Kept (S1 bb) w w1) : Kept (S2 pb bb) w w1 := h.mono (fun _ e => .inr e)
theorem Kept.s1p {pb bb : Nat} (h : Kept (S1 pb) w w1) : Kept (S2 pb bb) w w1 := h.mono (fun _ e => .inl e)
theorem Kept.so_st {rb : Nat} {lv : Value} (h : Kept (SO lv) w w1) : Kept (ST rb lv) w w1 := h.mono (fun _ e => .inr e)
end

def ldE (N a : Nat) (s : Int) : Int := if wordB s = true then (if inB a s N = true then 0 else 6) else 2
def ldL (N : Nat) (f : Nat → UInt8) (a : Nat) (s : Int) : Int := if wordB s = true ∧ inB a s N = true then (ldLo f a s.toNat : Int) else 0
def ldH (N : Nat) (f : Nat → UInt8) (a : Nat) (s : Int) : Int := if wordB s = true ∧ inB a s N = true then (ldHi f a s.toNat : Int) else 0
def stF (N : Nat) (f : Nat → UInt8) (a : Nat) (s : Int) (lo hi : Nat) : Nat → UInt8 := if wordB s = true ∧ inB a s N = true then storeF f a s.toNat lo hi else f
def flE (N a n : Nat) : Int := if a + n ≤ N then 0 else 6
def flF (N : Nat) (f : Nat → UInt8) (a n : Nat) (c : UInt8) : Nat → UInt8 := if a + n ≤ N then fillF f a n c else f
def ptE (N a n y m : Nat) : Int := if a + n ≤ N ∧ y + n ≤ m then 0 else 6
def ptF (N : Nat) (f : Nat → UInt8) (a n y m : Nat) (v : Nat → UInt8) : Nat → UInt8 := if a + n ≤ N ∧ y + n ≤ m then putF f a n (fun i => v (y + i)) else f

theorem word_nat {s : Int} (h : wordB s = true) : ∃ n : Nat, s = (n : Int) ∧ n ≤ 16 := by
  unfold wordB at h
  have := of_decide_eq_true h
  exact ⟨s.toNat, by omega, by omega⟩
theorem inB_nat {a n N : Nat} : (inB a n N = true) ↔ a + n ≤ N := by
  unfold inB
  constructor
  · intro h; have := of_decide_eq_true h; omega
  · intro h; exact decide_eq_true (by omega)
theorem inB_out {a k n b l m : Nat} (h : ¬ (a + k ≤ n ∧ b + l ≤ m)) : inB (a : Int) (k : Int) (n : Int) = false ∨ inB (b : Int) (l : Int) (m : Int) = false := by
  by_cases h1 : a + k ≤ n
  · exact .inr (by unfold inB; exact decide_eq_false (by omega))
  · exact .inl (by unfold inB; exact decide_eq_false (by omega))
theorem inB_not {a k n : Nat} (h : ¬ (a + k ≤ n)) : inB (a : Int) (k : Int) (n : Int) = false := by unfold inB; exact decide_eq_false (by omega)

section
variable {w : World} {pb bb rb B N : Nat} {mn mx : Int} {bd : Bool} {lr : Value} {f : Nat → UInt8}

theorem load_is (a : Nat) (s : Int) (h : MemAt w pb bb N mn mx bd f) (hN : N ≤ 1048576) (ha : a ≤ 18446744073709551615) :
    Calls Try.prog 20 #[.pointer (some ⟨pb, 0, none⟩), .int .u64 (a : Int), .int .i64 s] w fun e w' => e = .returned (.tuple #[.agg #[.int .u64 (ldL N f a s), .int .u64 (ldH N f a s)], .int .i64 (ldE N a s)]) ∧ Kept S0 w w' := by
  unfold ldL ldH ldE
  cases hw : wordB s with
  | false =>
    refine (load_arg a s h hw).mono ?_
    rintro e w1 ⟨rfl, hk⟩
    simp only [Bool.false_eq_true, if_false, false_and]
    exact ⟨trivial, hk⟩
  | true =>
    cases hi : inB a s N with
    | false =>
      refine (load_out a s h hN (by omega) (by omega) hw hi).mono ?_
      rintro e w1 ⟨rfl, hk⟩
      simp only [Bool.false_eq_true, if_false, if_true, and_false]
      exact ⟨trivial, hk⟩
    | true =>
      obtain ⟨n, rfl, _⟩ := word_nat hw
      refine (load_in a n h hN (inB_nat.1 hi) hw).mono ?_
      rintro e w1 ⟨rfl, hk⟩
      simp only [if_true, and_self, Int.toNat_natCast]
      exact ⟨trivial, hk⟩

theorem rload_is (a : Nat) (s : Int) (h : RMemAt w rb B N mn mx bd lr f) (hN : N ≤ 1048576) (ha : a ≤ 18446744073709551615) :
    Calls Try.prog 35 #[.pointer (some ⟨rb, 0, none⟩), .int .u64 (a : Int), .int .i64 s] w fun e w' => e = .returned (.tuple #[.agg #[.int .u64 (ldL N f a s), .int .u64 (ldH N f a s)], .int .i64 (ldE N a s)]) ∧ Kept S0 w w' := by
  unfold ldL ldH ldE
  cases hw : wordB s with
  | false =>
    refine (rload_arg a s hw).mono ?_
    rintro e w1 ⟨rfl, hk⟩
    simp only [Bool.false_eq_true, if_false, false_and]
    exact ⟨trivial, hk⟩
  | true =>
    cases hi : inB a s N with
    | false =>
      refine (rload_out a s h hN (by omega) (by omega) hw hi).mono ?_
      rintro e w1 ⟨rfl, hk⟩
      simp only [Bool.false_eq_true, if_false, if_true, and_false]
      exact ⟨trivial, hk⟩
    | true =>
      obtain ⟨n, rfl, _⟩ := word_nat hw
      refine (rload_in a n h hN (inB_nat.1 hi) hw).mono ?_
      rintro e w1 ⟨rfl, hk⟩
      simp only [if_true, and_self, Int.toNat_natCast]
      exact ⟨trivial, hk⟩

theorem store_is (a : Nat) (s : Int) (lo hi : Nat) (h : MemAt w pb bb N mn mx bd f) (hN : N ≤ 1048576) (ha : a ≤ 18446744073709551615)  :
    Calls Try.prog 19 #[.pointer (some ⟨pb, 0, none⟩), .int .u64 (a : Int), .int .i64 s, .agg #[.int .u64 (lo : Int), .int .u64 (hi : Int)]] w fun e w' => e = .returned (.int .i64 (ldE N a s)) ∧ MemAt w' pb bb N mn mx bd (stF N f a s lo hi) ∧ Kept (S1 bb) w w' := by
  unfold ldE stF
  cases hw : wordB s with
  | false =>
    refine (store_arg a s lo hi h hw).mono ?_
    rintro e w1 ⟨rfl, hk⟩
    simp only [Bool.false_eq_true, if_false, false_and]
    exact ⟨trivial, h.kept0 hk, hk.of0 _⟩
  | true =>
    cases hx : inB a s N with
    | false =>
      refine (store_out a s lo hi h hN (by omega) (by omega) hw hx).mono ?_
      rintro e w1 ⟨rfl, hk⟩
      simp only [Bool.false_eq_true, if_false, if_true, and_false]
      exact ⟨trivial, h.kept0 hk, hk.of0 _⟩
    | true =>
      obtain ⟨n, rfl, _⟩ := word_nat hw
      refine (store_in a n lo hi h hN (inB_nat.1 hx) hw).mono ?_
      rintro e w1 ⟨rfl, hm, hk⟩
      simp only [if_true, and_self, Int.toNat_natCast]
      exact ⟨trivial, hm, hk⟩

theorem rstore_is (a : Nat) (s : Int) (lo hi : Nat) (h : RMemAt w rb B N mn mx bd lr f) (hN : N ≤ 1048576) (ha : a ≤ 18446744073709551615) (hlo : lo ≤ 18446744073709551615) (hhi : hi ≤ 18446744073709551615) :
    Calls Try.prog 36 #[.pointer (some ⟨rb, 0, none⟩), .int .u64 (a : Int), .int .i64 s, .agg #[.int .u64 (lo : Int), .int .u64 (hi : Int)]] w fun e w' => e = .returned (.int .i64 (ldE N a s)) ∧ RMemAt w' rb B N mn mx bd lr (stF N f a s lo hi) ∧ Kept (SO lr) w w' := by
  unfold ldE stF
  cases hw : wordB s with
  | false =>
    refine (rstore_arg a s lo hi hw).mono ?_
    rintro e w1 ⟨rfl, hk⟩
    simp only [Bool.false_eq_true, if_false, false_and]
    exact ⟨trivial, h.kept0 hk, hk.of0 _⟩
  | true =>
    cases hx : inB a s N with
    | false =>
      refine (rstore_out a s lo hi h hN (by omega) (by omega) hw hx).mono ?_
      rintro e w1 ⟨rfl, hk⟩
      simp only [Bool.false_eq_true, if_false, if_true, and_false]
      exact ⟨trivial, h.kept0 hk, hk.of0 _⟩
    | true =>
      obtain ⟨n, rfl, _⟩ := word_nat hw
      refine (rstore_in a n lo hi h hN (inB_nat.1 hx) hw hlo hhi).mono ?_
      rintro e w1 ⟨rfl, hm, hk⟩
      simp only [if_true, and_self, Int.toNat_natCast]
      exact ⟨trivial, hm, hk⟩

theorem fill_is (a n : Nat) (c : UInt8) (h : MemAt w pb bb N mn mx bd f) (hN : N ≤ 1048576) (ha : a ≤ 18446744073709551615) (hn : n ≤ 18446744073709551615) :
    Calls Try.prog 11 #[.pointer (some ⟨pb, 0, none⟩), .int .u64 (a : Int), .int .u8 (c.toNat : Int), .int .u64 (n : Int)] w fun e w' => e = .returned (.int .i64 (flE N a n)) ∧ MemAt w' pb bb N mn mx bd (flF N f a n c) ∧ Kept (S1 bb) w w' := by
  unfold flE flF
  by_cases hi : a + n ≤ N
  · refine (fill_in a n c h hN hi).mono ?_
    rintro e w1 ⟨rfl, hm, hk⟩
    rw [if_pos hi, if_pos hi]
    exact ⟨rfl, hm, hk⟩
  · refine (fill_out a n c h hN (by omega) (by omega) (by omega) (by omega) (inB_not hi)).mono ?_
    rintro e w1 ⟨rfl, rfl⟩
    rw [if_neg hi, if_neg hi]
    exact ⟨rfl, h, Kept.refl _ _⟩

theorem rfill_is (a n : Nat) (c : UInt8) (h : RMemAt w rb B N mn mx bd lr f) (hN : N ≤ 1048576) (ha : a ≤ 18446744073709551615) (hn : n ≤ 18446744073709551615) :
    Calls Try.prog 41 #[.pointer (some ⟨rb, 0, none⟩), .int .u64 (a : Int), .int .u8 (c.toNat : Int), .int .u64 (n : Int)] w fun e w' => e = .returned (.int .i64 (flE N a n)) ∧ RMemAt w' rb B N mn mx bd lr (flF N f a n c) ∧ Kept (SO lr) w w' := by
  unfold flE flF
  by_cases hi : a + n ≤ N
  · refine (rfill_in a n c h hN hi).mono ?_
    rintro e w1 ⟨rfl, hm, hk⟩
    rw [if_pos hi, if_pos hi]
    exact ⟨rfl, hm, hk⟩
  · refine (rfill_out a n c h hN (by omega) (by omega) (by omega) (by omega) (inB_not hi)).mono ?_
    rintro e w1 ⟨rfl, rfl⟩
    rw [if_neg hi, if_neg hi]
    exact ⟨rfl, h, Kept.refl _ _⟩

theorem copy_is (a y n : Nat) (h : MemAt w pb bb N mn mx bd f) (hN : N ≤ 1048576) (ha : a ≤ 18446744073709551615) (hy : y ≤ 18446744073709551615) (hn : n ≤ 18446744073709551615) :
    Calls Try.prog 17 #[.pointer (some ⟨pb, 0, none⟩), .int .u64 (a : Int), .int .u64 (y : Int), .int .u64 (n : Int)] w fun e w' => e = .returned (.int .i64 (ptE N a n y N)) ∧ MemAt w' pb bb N mn mx bd (ptF N f a n y N f) ∧ Kept (S1 bb) w w' := by
  unfold ptE ptF
  by_cases hi : a + n ≤ N ∧ y + n ≤ N
  · refine (copy_in a y n h hN hi.1 hi.2).mono ?_
    rintro e w1 ⟨rfl, hm, hk⟩
    rw [if_pos hi, if_pos hi]
    exact ⟨rfl, hm, hk⟩
  · refine (copy_out a y n h hN (by omega) (by omega) (by omega) (by omega) (by omega) (by omega) (inB_out hi)).mono ?_
    rintro e w1 ⟨rfl, rfl⟩
    rw [if_neg hi, if_neg hi]
    exact ⟨rfl, h, Kept.refl _ _⟩

theorem init_is (a y n : Nat) (A : Option Addr) (m c : Nat) (v : Nat → UInt8) (h : MemAt w pb bb N mn mx bd f) (hN : N ≤ 1048576) (hA : Sl w A m (byteV v)) (hm : m ≤ 140737488351232) (hmc : m ≤ c) (ha : a ≤ 18446744073709551615) (hy : y ≤ 18446744073709551615) (hn : n ≤ 18446744073709551615) :
    Calls Try.prog 22 #[.pointer (some ⟨pb, 0, none⟩), .int .u64 (a : Int), .slice A m c, .int .u64 (y : Int), .int .u64 (n : Int)] w fun e w' => e = .returned (.int .i64 (ptE N a n y m)) ∧ MemAt w' pb bb N mn mx bd (ptF N f a n y m v) ∧ Kept (S1 bb) w w' := by
  unfold ptE ptF
  by_cases hi : a + n ≤ N ∧ y + n ≤ m
  · refine (init_in a y n A m c v hm hmc hA h hN hi.1 hi.2).mono ?_
    rintro e w1 ⟨rfl, hm, hk⟩
    rw [if_pos hi, if_pos hi]
    exact ⟨rfl, hm, hk⟩
  · refine (init_out a y n A m c hm h hN (by omega) (by omega) (by omega) (by omega) (by omega) (by omega) (inB_out hi)).mono ?_
    rintro e w1 ⟨rfl, rfl⟩
    rw [if_neg hi, if_neg hi]
    exact ⟨rfl, h, Kept.refl _ _⟩

theorem write_is (a : Nat) (A : Option Addr) (m c : Nat) (v : Nat → UInt8) (h : MemAt w pb bb N mn mx bd f) (hN : N ≤ 1048576) (hA : Sl w A m (byteV v)) (hm : m ≤ 140737488351232) (ha : a ≤ 18446744073709551615) :
    Calls Try.prog 16 #[.pointer (some ⟨pb, 0, none⟩), .int .u64 (a : Int), .slice A m c] w fun e w' => e = .returned (.int .i64 (ptE N a m 0 m)) ∧ MemAt w' pb bb N mn mx bd (ptF N f a m 0 m v) ∧ Kept (S1 bb) w w' := by
  unfold ptE ptF
  have e0 : (fun i => v (0 + i)) = v := by funext i; rw [Nat.zero_add]
  by_cases hi : a + m ≤ N
  · refine (write_in a A m c v h hN hA hi).mono ?_
    rintro e w1 ⟨rfl, hm, hk⟩
    rw [if_pos ⟨hi, by omega⟩, if_pos ⟨hi, by omega⟩, e0]
    exact ⟨rfl, hm, hk⟩
  · refine (write_out a A m c h hN (by omega) (by omega) hm (inB_not hi)).mono ?_
    rintro e w1 ⟨rfl, rfl⟩
    rw [if_neg (fun e => hi e.1), if_neg (fun e => hi e.1)]
    exact ⟨rfl, h, Kept.refl _ _⟩

theorem rput_is (a y n : Nat) (A : Option Addr) (m c : Nat) (v : Nat → UInt8) (h : RMemAt w rb B N mn mx bd lr f) (hN : N ≤ 1048576) (hA : Sl w A m (byteV v)) (hm : m ≤ 140737488351232) (ha : a ≤ 18446744073709551615) (hy : y ≤ 18446744073709551615) (hn : n ≤ 18446744073709551615) :
    Calls Try.prog 39 #[.pointer (some ⟨rb, 0, none⟩), .int .u64 (a : Int), .slice A m c, .int .u64 (y : Int), .int .u64 (n : Int)] w fun e w' => e = .returned (.int .i64 (ptE N a n y m)) ∧ RMemAt w' rb B N mn mx bd lr (ptF N f a n y m v) ∧ Kept (SO lr) w w' := by
  unfold ptE ptF
  by_cases hi : a + n ≤ N ∧ y + n ≤ m
  · refine (rput_in a y n A m c v h hN hA hm hy hi.1 hi.2).mono ?_
    rintro e w1 ⟨rfl, hm, hk⟩
    rw [if_pos hi, if_pos hi]
    exact ⟨rfl, hm, hk⟩
  · refine (rput_out a y n A m c h hN hm (by omega) (by omega) (by omega) (by omega) (by omega) (by omega) (inB_out hi)).mono ?_
    rintro e w1 ⟨rfl, rfl⟩
    rw [if_neg hi, if_neg hi]
    exact ⟨rfl, h, Kept.refl _ _⟩
end

/-- What Grow answers, and how many pages there are then. -/
def gwV (P k : Nat) (mx : Int) (bd : Bool) : Int := if growB (P * 65536) k mx bd = true then (P : Int) else 4294967295
def gwP (P k : Nat) (mx : Int) (bd : Bool) : Nat := if growB (P * 65536) k mx bd = true then P + k else P

section
variable {w : World} {pb bb rb B P : Nat} {mn mx : Int} {bd : Bool} {lr : Value} {f : Nat → UInt8}
theorem moreF_cong (f : Nat → UInt8) (N : Nat) : ∀ i, i < N → f i = moreF f N i := fun i hi => by unfold moreF; rw [if_pos hi]

theorem grow_is (k : Nat) (h : MemAt w pb bb (P * 65536) mn mx bd f) (hP : P ≤ 16) (hk : k ≤ 4294967295) (h3 : 0 ≤ mx) (h4 : mx ≤ 4294967295) :
    Calls Try.prog 13 #[.pointer (some ⟨pb, 0, none⟩), .int .u32 (k : Int)] w fun e w' => e = .returned (.tuple #[.int .u32 (gwV P k mx bd), .int .i64 0]) ∧ ∃ b2, MemAt w' pb b2 (gwP P k mx bd * 65536) mn mx bd (moreF f (P * 65536)) ∧ (b2 = bb ∨ w.heap.size ≤ b2) ∧ Kept (S1 pb) w w' := by
  unfold gwV gwP
  cases hg : growB (P * 65536) k mx bd with
  | true =>
    refine (grow_yes pb bb P k mn mx bd f w h hP hk h3 h4 hg).mono ?_
    rintro e w1 ⟨rfl, b2, hm, hl, hk⟩
    simp only [if_true]
    exact ⟨trivial, b2, hm, .inr hl, hk⟩
  | false =>
    refine (grow_no pb bb (P * 65536) k mn mx bd f w h (by omega) hk h3 h4 hg).mono ?_
    rintro e w1 ⟨rfl, rfl⟩
    simp only [Bool.false_eq_true, if_false]
    exact ⟨trivial, bb, h.congr (moreF_cong f _), .inl rfl, Kept.refl _ _⟩

theorem rgrow_is (k : Nat) (h : RMemAt w rb B (P * 65536) mn mx bd lr f) (hP : P ≤ 16) (hB : B ≤ w.heap.size) (hk : k ≤ 4294967295) (h3 : 0 ≤ mx) (h4 : mx ≤ 4294967295) :
    Calls Try.prog 42 #[.pointer (some ⟨rb, 0, none⟩), .int .u32 (k : Int)] w fun e w' => e = .returned (.int .u32 (gwV P k mx bd)) ∧ ∃ lj, RMemAt w' rb B (gwP P k mx bd * 65536) mn mx bd lj (moreF f (P * 65536)) ∧ Kept (ST rb lr) w w' ∧ (lj.ownBlock = lr.ownBlock ∨ ∃ g, lj.ownBlock = some g ∧ w.heap.size ≤ g) := by
  unfold gwV gwP
  cases hg : growB (P * 65536) k mx bd with
  | true =>
    refine (rgrow_yes P k h hP hB hk h3 h4 hg).mono ?_
    rintro e w1 ⟨rfl, lj, hm, hk, hl⟩
    simp only [if_true]
    exact ⟨trivial, lj, hm, hk, hl⟩
  | false =>
    refine (rgrow_no k h (by omega) hk h3 h4 hg).mono ?_
    rintro e w1 ⟨rfl, rfl⟩
    simp only [Bool.false_eq_true, if_false]
    exact ⟨trivial, lr, h.congr (moreF_cong f _), Kept.refl _ _, .inl rfl⟩
theorem gwP_le {P k : Nat} {mx : Int} {bd : Bool} (hP : P ≤ 16) : gwP P k mx bd ≤ 16 := by
  unfold gwP
  cases hg : growB (P * 65536) k mx bd with
  | true =>
    unfold growB at hg
    simp at hg
    simp only [if_true]
    omega
  | false => simp only [Bool.false_eq_true, if_false]; exact hP
end
end Go.Proofs.Ytjkndigmoclnoaa
