/- Contracts of the statements' both: Set, Fill, Grow. No condition. -/
import Derived.Test.YtpeekldngelkkaaTabS
namespace Go.Proofs.Ytpeekldngelkkaa
open Go.RowKit

/-- What Fill answers, and what there is then. -/
def PT.fillE (s : PT) (a k : Nat) (x : V3) : Int := if fitB x.t x.lo x.hi s.el = true then (if a + k ≤ s.n then 0 else 6) else 2
def PT.fillF (s : PT) (a k : Nat) (x : V3) : Nat → V3 := if fitB x.t x.lo x.hi s.el = true ∧ a + k ≤ s.n then overV s.f a k (fun _ => x) else s.f
/-- What Grow answers, and how many there are then. -/
def PT.growN (s : PT) (k : Nat) (x : V3) : Nat := if fitB x.t x.lo x.hi s.el = true ∧ growB s.n k s.mx s.bd = true then s.n + k else s.n
def PT.growV (s : PT) (k : Nat) (x : V3) : Int := if fitB x.t x.lo x.hi s.el = true then (if growB s.n k s.mx s.bd = true then (s.n : Int) else 4294967295) else 0
def PT.growE (s : PT) (x : V3) : Int := if fitB x.t x.lo x.hi s.el = true then 0 else 2

section
variable {w : World} {B tp rp : Nat} {mn : Int} {lt lr : Value} {s : PT}

theorem fill_is (a k : Nat) (x : V3) (h : TabAt w tp B s.n s.el mn s.mx s.bd lt s.f) (hn : s.n ≤ 16384) (hel : s.el = 112 ∨ s.el = 111) (ha : a ≤ 4294967295) (hk : k ≤ 4294967295) :
    Calls Try.prog 18 #[.pointer (some ⟨tp, 0, none⟩), .int .u32 (a : Int), .agg #[.int .u8 x.t, .int .u64 x.lo, .int .u64 x.hi], .int .u32 (k : Int)] w fun e w' => e = .returned (.int .i64 (s.fillE a k x)) ∧ TabAt w' tp B s.n s.el mn s.mx s.bd lt (s.fillF a k x) ∧ Kept (SO lt) w w' := by
  unfold PT.fillE PT.fillF
  cases hf : fitB x.t x.lo x.hi s.el with
  | false =>
    refine (fill_bad a k x h hel hf).mono ?_
    rintro e w1 ⟨rfl, hk⟩
    simp only [Bool.false_eq_true, if_false, false_and]
    exact ⟨trivial, h.kept0 hk, hk.of0 _⟩
  | true =>
    by_cases hin : a + k ≤ s.n
    · refine (fill_in a k x h hn hel hf hin).mono ?_
      rintro e w1 ⟨rfl, hm, hk⟩
      rw [if_pos rfl, if_pos hin, if_pos ⟨rfl, hin⟩]
      exact ⟨rfl, hm, hk⟩
    · refine (fill_trap a k x h hn hel hf (by omega) (by omega) (by omega) (by omega) (by unfold inB; exact decide_eq_false (by omega))).mono ?_
      rintro e w1 ⟨rfl, hk⟩
      rw [if_pos rfl, if_neg hin, if_neg (fun e => hin e.2)]
      exact ⟨rfl, h.kept0 hk, hk.of0 _⟩

theorem rfill_is (a k : Nat) (x : V3) (h : RefAt w rp B s.n s.el mn s.mx s.bd lr s.f) (hn : s.n ≤ 16384) (hel : s.el = 112 ∨ s.el = 111) (ha : a ≤ 4294967295) (hk : k ≤ 4294967295) :
    Calls Try.prog 38 #[.pointer (some ⟨rp, 0, none⟩), .int .u32 (a : Int), .agg #[.int .u8 x.t, .int .u64 x.lo, .int .u64 x.hi], .int .u32 (k : Int)] w fun e w' => e = .returned (.int .i64 (s.fillE a k x)) ∧ RefAt w' rp B s.n s.el mn s.mx s.bd lr (s.fillF a k x) ∧ Kept (SO lr) w w' := by
  unfold PT.fillE PT.fillF
  cases hf : fitB x.t x.lo x.hi s.el with
  | false =>
    refine (rfill_bad a k x h hel hf).mono ?_
    rintro e w1 ⟨rfl, hk⟩
    simp only [Bool.false_eq_true, if_false, false_and]
    exact ⟨trivial, h.kept0 hk, hk.of0 _⟩
  | true =>
    by_cases hin : a + k ≤ s.n
    · refine (rfill_in a k x h hn hel hf hin).mono ?_
      rintro e w1 ⟨rfl, hm, hk⟩
      rw [if_pos rfl, if_pos hin, if_pos ⟨rfl, hin⟩]
      exact ⟨rfl, hm, hk⟩
    · refine (rfill_trap a k x h hn hel hf (by omega) (by omega) (by omega) (by omega) (by unfold inB; exact decide_eq_false (by omega))).mono ?_
      rintro e w1 ⟨rfl, hk⟩
      rw [if_pos rfl, if_neg hin, if_neg (fun e => hin e.2)]
      exact ⟨rfl, h.kept0 hk, hk.of0 _⟩

theorem set_is (a : Nat) (x : V3) (h : TabAt w tp B s.n s.el mn s.mx s.bd lt s.f) (hn : s.n ≤ 16384) (hel : s.el = 112 ∨ s.el = 111) (ha : a ≤ 4294967295) :
    Calls Try.prog 21 #[.pointer (some ⟨tp, 0, none⟩), .int .u32 (a : Int), .agg #[.int .u8 x.t, .int .u64 x.lo, .int .u64 x.hi]] w fun e w' => e = .returned (.int .i64 (s.fillE a 1 x)) ∧ TabAt w' tp B s.n s.el mn s.mx s.bd lt (s.fillF a 1 x) ∧ Kept (SO lt) w w' := by
  unfold PT.fillE PT.fillF
  cases hf : fitB x.t x.lo x.hi s.el with
  | false =>
    refine (set_bad a x h hel hf).mono ?_
    rintro e w1 ⟨rfl, hk⟩
    simp only [Bool.false_eq_true, if_false, false_and]
    exact ⟨trivial, h.kept0 hk, hk.of0 _⟩
  | true =>
    by_cases hin : a + 1 ≤ s.n
    · refine (set_in a x h hn hel hf hin).mono ?_
      rintro e w1 ⟨rfl, hm, hk⟩
      rw [if_pos rfl, if_pos hin, if_pos ⟨rfl, hin⟩]
      exact ⟨rfl, hm, hk⟩
    · refine (set_trap a x h hn hel hf (by omega) (by omega) (by unfold inB; exact decide_eq_false (by omega))).mono ?_
      rintro e w1 ⟨rfl, hk⟩
      rw [if_pos rfl, if_neg hin, if_neg (fun e => hin e.2)]
      exact ⟨rfl, h.kept0 hk, hk.of0 _⟩

set_option maxHeartbeats 1600000 in
theorem grow_bad (k : Int) (x : V3) (hm : TabAt w tp B s.n s.el mn s.mx s.bd lt s.f) (hel : s.el = 112 ∨ s.el = 111) (hf : fitB x.t x.lo x.hi s.el = false) :
    Calls Try.prog 15 #[.pointer (some ⟨tp, 0, none⟩), .int .u32 k, .agg #[.int .u8 x.t, .int .u64 x.lo, .int .u64 x.hi]] w fun e w' => e = .returned (.tuple #[.int .u32 0, .int .i64 2]) ∧ Kept S0 w w' := by
  have hka : Kept S0 w (w.alloc (.cells #[.int .u8 x.t, .int .u64 x.lo, .int .u64 x.hi] 43)) := (Kept.refl S0 w).alloc _
  have hm1 := hm.kept0 hka
  have c0 := hm1.c0
  have c1 := hm1.c1
  have hB := Blk.new w 43 #[.int .u8 x.t, .int .u64 x.lo, .int .u64 x.hi]
  have e0 : (w.alloc (.cells #[.int .u8 x.t, .int .u64 x.lo, .int .u64 x.hi] 43)).cell? ⟨w.heap.size, 0, none⟩ = some (.int .u8 x.t) := hB.cell 0
  have e1 : (w.alloc (.cells #[.int .u8 x.t, .int .u64 x.lo, .int .u64 x.hi] 43)).cell? ⟨w.heap.size, 1, none⟩ = some (.int .u64 x.lo) := hB.cell 1
  have e2 : (w.alloc (.cells #[.int .u8 x.t, .int .u64 x.lo, .int .u64 x.hi] 43)).cell? ⟨w.heap.size, 2, none⟩ = some (.int .u64 x.hi) := hB.cell 2
  have HF := Lib.hid hf
  have HE := Lib.hid hel
  clear hm hm1 hB hf hel
  go_enter Try.func15, Try.ntmps15
  go_wp2_with fail
  refine (off_made _ _ c0).mono ?_
  rintro e w1 ⟨rfl, rfl⟩
  go_wp2_with fail
  generalize hw1 : w.alloc (.cells #[.int .u8 x.t, .int .u64 x.lo, .int .u64 x.hi] 43) = w1 at *
  have HW := Lib.hid hw1
  clear hw1
  go_still_tail 6, (by kernel_rfl)
  change wpList _ _ _ _ _ (World.drew _)
  go_wp2_with fail
  refine (fits_ref x.t x.lo x.hi s.el _ HE.out).mono ?_
  rintro e w2 ⟨rfl, hk⟩
  rw [HF.out]
  have hk1 := hka.drew.then0 hk
  go_wp2_with fail
  go_ret2
  exact ⟨rfl, hk1⟩

theorem grow_is (k : Nat) (x : V3) (h : TabAt w tp B s.n s.el mn s.mx s.bd lt s.f) (hn : s.n ≤ 16384) (hel : s.el = 112 ∨ s.el = 111) (h3 : 0 ≤ s.mx) (h4 : s.mx ≤ 4294967295) (hB : B ≤ w.heap.size) (hk : k ≤ 4294967295) :
    Calls Try.prog 15 #[.pointer (some ⟨tp, 0, none⟩), .int .u32 (k : Int), .agg #[.int .u8 x.t, .int .u64 x.lo, .int .u64 x.hi]] w fun e w' => e = .returned (.tuple #[.int .u32 (s.growV k x), .int .i64 (s.growE x)]) ∧ ∃ lj, TabAt w' tp B (s.growN k x) s.el mn s.mx s.bd lj (afterV s.n s.f (fun _ => x)) ∧ Kept (ST tp lt) w w' ∧ (lj.ownBlock = (lt).ownBlock ∨ ∃ g, lj.ownBlock = some g ∧ w.heap.size ≤ g) := by
  unfold PT.growV PT.growE PT.growN
  have hc : TabAt w tp B s.n s.el mn s.mx s.bd lt (afterV s.n s.f (fun _ => x)) := h.congr (fun i hi => by unfold afterV; rw [if_pos hi])
  cases hf : fitB x.t x.lo x.hi s.el with
  | false =>
    refine (grow_bad k x h hel hf).mono ?_
    rintro e w1 ⟨rfl, hk⟩
    simp only [Bool.false_eq_true, if_false, false_and]
    exact ⟨trivial, _, hc.kept0 hk, hk.of0 _, .inl rfl⟩
  | true =>
    cases hg : growB s.n k s.mx s.bd with
    | true =>
      refine (grow_yes k x h hn hk h3 h4 hel hf hg hB).mono ?_
      rintro e w1 ⟨rfl, lj, hm, hk, hb⟩
      simp only [if_true, and_self]
      exact ⟨trivial, lj, hm, hk, hb⟩
    | false =>
      refine (grow_no k x h hn hk h3 h4 hel hf hg).mono ?_
      rintro e w1 ⟨rfl, hk⟩
      simp only [Bool.false_eq_true, if_false, if_true, and_false]
      exact ⟨trivial, _, hc.kept0 hk, hk.of0 _, .inl rfl⟩

theorem rgrow_is (k : Nat) (x : V3) (h : RefAt w rp B s.n s.el mn s.mx s.bd lr s.f) (hn : s.n ≤ 16384) (hel : s.el = 112 ∨ s.el = 111) (h3 : 0 ≤ s.mx) (h4 : s.mx ≤ 4294967295) (hB : B ≤ w.heap.size) (hk : k ≤ 4294967295) :
    Calls Try.prog 39 #[.pointer (some ⟨rp, 0, none⟩), .int .u32 (k : Int), .agg #[.int .u8 x.t, .int .u64 x.lo, .int .u64 x.hi]] w fun e w' => e = .returned (.tuple #[.int .u32 (s.growV k x), .int .i64 (s.growE x)]) ∧ ∃ lj, RefAt w' rp B (s.growN k x) s.el mn s.mx s.bd lj (afterV s.n s.f (fun _ => x)) ∧ Kept (ST rp lr) w w' ∧ (lj.ownBlock = (lr).ownBlock ∨ ∃ g, lj.ownBlock = some g ∧ w.heap.size ≤ g) := by
  unfold PT.growV PT.growE PT.growN
  have hc : RefAt w rp B s.n s.el mn s.mx s.bd lr (afterV s.n s.f (fun _ => x)) := h.congr (fun i hi => by unfold afterV; rw [if_pos hi])
  cases hf : fitB x.t x.lo x.hi s.el with
  | false =>
    refine (rgrow_bad k x h hel hf).mono ?_
    rintro e w1 ⟨rfl, hk⟩
    simp only [Bool.false_eq_true, if_false, false_and]
    exact ⟨trivial, _, hc.kept0 hk, hk.of0 _, .inl rfl⟩
  | true =>
    cases hg : growB s.n k s.mx s.bd with
    | true =>
      refine (rgrow_yes k x h hn hk h3 h4 hel hf hg hB).mono ?_
      rintro e w1 ⟨rfl, lj, hm, hk, hb⟩
      simp only [if_true, and_self]
      exact ⟨trivial, lj, hm, hk, hb⟩
    | false =>
      refine (rgrow_no k x h hn hk h3 h4 hel hf hg).mono ?_
      rintro e w1 ⟨rfl, hk⟩
      simp only [Bool.false_eq_true, if_false, if_true, and_false]
      exact ⟨trivial, _, hc.kept0 hk, hk.of0 _, .inl rfl⟩

variable (po pr : Value) (s2 o2 : Bool) (a fr k : Nat) (x : V3) (L : Option Addr) (m c : Nat)

theorem stepped0 {w1 w2 : World} {s' : PT} {lt' lr' : Value} (_h : PairAt w B tp rp mn lt lr s) (hk : Kept S0 w w1) (hs : Stepped w1 w2 B tp rp mn lt lr s lt' lr' s') : Stepped w w2 B tp rp mn lt lr s lt' lr' s' :=
  ⟨hs.pair, (hk.of0 _).trans hs.kept, fun g hg => (hs.own g hg).imp id (fun h => Nat.le_trans hk.size h)⟩

set_option maxRecDepth 100000 in
set_option maxHeartbeats 3200000 in
theorem both_set (h : PairAt w B tp rp mn lt lr s) (ha : a ≤ 4294967295) :
    Calls Try.prog 24 #[.pointer (some ⟨tp, 0, none⟩), po, .pointer (some ⟨rp, 0, none⟩), pr, .agg #[.int .i64 1, .bool s2, .bool o2, .int .u32 (a : Int), .int .u32 (fr : Int), .int .u32 (k : Int), .int .u8 x.t, .int .u64 x.lo, .int .u64 x.hi, .slice L m c]] w fun e w' => e = .returned (.bool true) ∧ ∃ s' lt' lr', Stepped w w' B tp rp mn lt lr s lt' lr' s' := by
  have hka : Kept S0 w (w.alloc (.cells #[.int .i64 1, .bool s2, .bool o2, .int .u32 (a : Int), .int .u32 (fr : Int), .int .u32 (k : Int), .int .u8 x.t, .int .u64 x.lo, .int .u64 x.hi, .slice L m c] 62)) := (Kept.refl S0 w).alloc _
  have H0 := Lib.hid h
  have H1 := Lib.hid (h.kept0 hka)
  have hB := Blk.new w 62 #[.int .i64 1, .bool s2, .bool o2, .int .u32 (a : Int), .int .u32 (fr : Int), .int .u32 (k : Int), .int .u8 x.t, .int .u64 x.lo, .int .u64 x.hi, .slice L m c]
  have r0 := hB.cell 0
  have HB := Lib.hid hB
  have e1 : ∀ z : Int, (z == z) = true := fun z => beq_self_eq_true z
  have hxl : ∀ i, SP tp rp lt lr i → i ≠ w.heap.size := fun i hi => by have := (h.low i hi).2; omega
  have HXL := Lib.hid hxl
  clear h hB hxl
  go_enter Try.func24, Try.ntmps24
  go_wp2_with fail
  clear r0
  have hdd := (Kept.refl S0 (w.alloc (.cells #[.int .i64 1, .bool s2, .bool o2, .int .u32 (a : Int), .int .u32 (fr : Int), .int .u32 (k : Int), .int .u8 x.t, .int .u64 x.lo, .int .u64 x.hi, .slice L m c] 62))).drew
  have HK2 := Lib.hid (hka.then0 hdd)
  have HB2 := Lib.hid (hdd.blk HB.out (fun x => x))
  have HP2 := Lib.hid (H1.out.kept0 hdd)
  clear hka hdd HB H1
  generalize w.heap.size = xb at HXL HB2 ⊢
  refine wp_region_R (fun w' => w'.cell? ⟨xb, 3, none⟩ = some (.int .u32 (a : Int)) ∧ w'.cell? ⟨xb, 6, none⟩ = some (.int .u8 x.t) ∧ w'.cell? ⟨xb, 7, none⟩ = some (.int .u64 x.lo) ∧ w'.cell? ⟨xb, 8, none⟩ = some (.int .u64 x.hi)) [] (by kernel_rfl) ?_
  generalize (w.alloc (.cells #[.int .i64 1, .bool s2, .bool o2, .int .u32 (a : Int), .int .u32 (fr : Int), .int .u32 (k : Int), .int .u8 x.t, .int .u64 x.lo, .int .u64 x.hi, .slice L m c] 62)).drew = w2 at *
  have hS : w2.cell? ⟨xb, 3, none⟩ = some (.int .u32 (a : Int)) ∧ w2.cell? ⟨xb, 6, none⟩ = some (.int .u8 x.t) ∧ w2.cell? ⟨xb, 7, none⟩ = some (.int .u64 x.lo) ∧ w2.cell? ⟨xb, 8, none⟩ = some (.int .u64 x.hi) := ⟨HB2.out.cell 3, HB2.out.cell 6, HB2.out.cell 7, HB2.out.cell 8⟩
  refine wpAnyR_take 0 (v := ?_) rfl (by kernel_rfl) (by kernel_rfl) (by kernel_rfl) (by kernel_rfl) (fun _ _ _ h => h) hS ⟨by rfl, ?_⟩ ?_
  rotate_left; (intro w hSw; (try dsimp only at hSw); first | (go_simp; done) | (go_simp; with_reducible rfl))
  simp only [List.getElem_toArray, List.getElem_cons_zero, Act.put, List.setIfInBounds_toArray, List.set_cons_zero, List.set_cons_succ]
  refine wpAnyR_take 1 (v := ?_) rfl (by kernel_rfl) (by kernel_rfl) (by kernel_rfl) (by kernel_rfl) (fun _ _ _ h => h) hS ⟨by rfl, ?_⟩ ?_
  rotate_left; (intro w hSw; (try dsimp only at hSw); first | (go_simp; done) | (go_simp; with_reducible rfl))
  simp only [List.getElem_toArray, List.getElem_cons_zero, List.getElem_cons_succ, Act.put, List.setIfInBounds_toArray, List.set_cons_zero, List.set_cons_succ]
  refine wpAnyR_take 2 (v := ?_) rfl (by kernel_rfl) (by kernel_rfl) (by kernel_rfl) (by kernel_rfl) (fun _ _ _ h => h) hS ⟨by rfl, ?_⟩ ?_
  rotate_left; (intro w hSw; (try dsimp only at hSw); first | (go_simp; done) | (go_simp; with_reducible rfl))
  simp only [List.getElem_toArray, List.getElem_cons_zero, List.getElem_cons_succ, Act.put, List.setIfInBounds_toArray, List.set_cons_zero, List.set_cons_succ]
  refine wpAnyR_take 3 (v := ?_) rfl (by kernel_rfl) (by kernel_rfl) (by kernel_rfl) (by kernel_rfl) (fun _ _ _ h => h) hS ⟨by rfl, ?_⟩ ?_
  rotate_left; (intro w hSw; (try dsimp only at hSw); first | (go_simp; done) | (go_simp; with_reducible rfl))
  simp only [List.getElem_toArray, List.getElem_cons_zero, List.getElem_cons_succ, Act.put, List.setIfInBounds_toArray, List.set_cons_zero, List.set_cons_succ]
  refine wpAnyR_take 4 (v := ?_) rfl (by kernel_rfl) (by kernel_rfl) (by kernel_rfl) (by kernel_rfl) (fun _ _ _ h => h) hS ⟨by rfl, ?_⟩ ?_
  rotate_left; (intro w hSw; (try dsimp only at hSw); first | (go_simp; done) | (go_simp; with_reducible rfl))
  simp only [List.getElem_toArray, List.getElem_cons_zero, List.getElem_cons_succ, Act.put, List.setIfInBounds_toArray, List.set_cons_zero, List.set_cons_succ]
  refine wpAnyR_take 6 (v := ?_) rfl (by kernel_rfl) (by kernel_rfl) (by kernel_rfl) (by kernel_rfl) (fun _ _ _ h => h) hS ⟨by rfl, ?_⟩ ?_
  rotate_left; (intro w hSw; (try dsimp only at hSw); first | (go_simp; done) | (go_simp; with_reducible rfl))
  simp only [List.getElem_toArray, List.getElem_cons_zero, List.getElem_cons_succ, Act.put, List.setIfInBounds_toArray, List.set_cons_zero, List.set_cons_succ]
  refine wpAnyR_take 7 (v := ?_) rfl (by kernel_rfl) (by kernel_rfl) (by kernel_rfl) (by kernel_rfl) (fun _ _ _ h => h) hS ⟨by rfl, ?_⟩ ?_
  rotate_left; (intro w hSw; (try dsimp only at hSw); first | (go_simp; done) | (go_simp; with_reducible rfl))
  simp only [List.getElem_toArray, List.getElem_cons_zero, List.getElem_cons_succ, Act.put, List.setIfInBounds_toArray, List.set_cons_zero, List.set_cons_succ]
  refine wpAnyR_take 8 (v := ?_) rfl (by kernel_rfl) (by kernel_rfl) (by kernel_rfl) (by kernel_rfl) (fun _ _ _ h => h) hS ⟨by rfl, ?_⟩ ?_
  rotate_left; (intro w hSw; (try dsimp only at hSw); first | (go_simp; done) | (go_simp; with_reducible rfl))
  simp only [List.getElem_toArray, List.getElem_cons_zero, List.getElem_cons_succ, Act.put, List.setIfInBounds_toArray, List.set_cons_zero, List.set_cons_succ]
  refine wpAnyR_take 9 (v := ?_) rfl (by kernel_rfl) (by kernel_rfl) (by kernel_rfl) (by kernel_rfl) (fun _ _ _ h => h) hS ⟨by rfl, ?_⟩ ?_
  rotate_left; (intro w hSw; (try dsimp only at hSw); first | (go_simp; done) | (go_simp; with_reducible rfl))
  simp only [List.getElem_toArray, List.getElem_cons_zero, List.getElem_cons_succ, Act.put, List.setIfInBounds_toArray, List.set_cons_zero, List.set_cons_succ]
  refine wpAnyR_take 10 (v := ?_) rfl (by kernel_rfl) (by kernel_rfl) (by kernel_rfl) (by kernel_rfl) (fun _ _ _ h => h) hS ⟨by rfl, ?_⟩ ?_
  rotate_left; (intro w hSw; (try dsimp only at hSw); first | (go_simp; done) | (go_simp; with_reducible rfl))
  simp only [List.getElem_toArray, List.getElem_cons_zero, List.getElem_cons_succ, Act.put, List.setIfInBounds_toArray, List.set_cons_zero, List.set_cons_succ]
  refine wpAnyR_one 5 rfl (by kernel_rfl) (fun K hK1 => ?_)
  go_simp
  go_at_call 21
  refine (set_is a x HP2.out.tab HP2.out.hn HP2.out.hel ha).mono ?_
  rintro e w3 ⟨rfl, hm3, hk3⟩
  have hb3 := hk3.blk HB2.out (fun e => HXL.out _ (.inr (.inr (.inl e))) rfl)
  have hS3 : w3.cell? ⟨xb, 3, none⟩ = some (.int .u32 (a : Int)) ∧ w3.cell? ⟨xb, 6, none⟩ = some (.int .u8 x.t) ∧ w3.cell? ⟨xb, 7, none⟩ = some (.int .u64 x.lo) ∧ w3.cell? ⟨xb, 8, none⟩ = some (.int .u64 x.hi) := ⟨hb3.cell 3, hb3.cell 6, hb3.cell 7, hb3.cell 8⟩
  have HR3 := Lib.hid (HP2.out.ref1 (Kept.so_st hk3))
  have HK3 := Lib.hid hk3
  have HB3 := Lib.hid hb3
  have HM3 := Lib.hid hm3
  refine hK1.out _ _ (fun _ => hS3) ?_
  clear hK1 K hS HB2 hk3 hb3 hm3

  refine wpAnyR_one 11 rfl (by kernel_rfl) (fun K hK2 => ?_)
  go_simp
  go_at_call 38
  refine (rfill_is a 1 x HR3.out HP2.out.hn HP2.out.hel ha (by omega)).mono ?_
  rintro e w4 ⟨rfl, hm4, hk4⟩
  have hb4 := hk4.blk HB3.out (fun e => HXL.out _ (.inr (.inr (.inr e))) rfl)
  have hS4 : w4.cell? ⟨xb, 3, none⟩ = some (.int .u32 (a : Int)) ∧ w4.cell? ⟨xb, 6, none⟩ = some (.int .u8 x.t) ∧ w4.cell? ⟨xb, 7, none⟩ = some (.int .u64 x.lo) ∧ w4.cell? ⟨xb, 8, none⟩ = some (.int .u64 x.hi) := ⟨hb4.cell 3, hb4.cell 6, hb4.cell 7, hb4.cell 8⟩
  have HST := Lib.hid (HP2.out.step HM3.out (Kept.so_st HK3.out) (.inl rfl) hm4 (Kept.mono hk4 (fun _ e => .inr e)) (.inl rfl) HP2.out.hn)
  refine hK2.out _ _ (fun _ => hS4) ?_
  clear hK2 K hS3 HK3 HB3 HM3 HR3 hb4 hm4 hk4
  refine wpAnyR_take 12 (v := ?_) rfl (by kernel_rfl) (by kernel_rfl) (by kernel_rfl) (by kernel_rfl) (fun _ _ _ h => h) hS4 ⟨by rfl, ?_⟩ ?_
  rotate_left; (intro w hSw; (try dsimp only at hSw); first | (go_simp; done) | (go_simp; with_reducible rfl))
  simp only [List.getElem_toArray, List.getElem_cons_zero, List.getElem_cons_succ, Act.put, List.setIfInBounds_toArray, List.set_cons_zero, List.set_cons_succ]
  refine wpAnyR_take 13 (v := ?_) rfl (by kernel_rfl) (by kernel_rfl) (by kernel_rfl) (by kernel_rfl) (fun _ _ _ h => h) hS4 ⟨by rfl, ?_⟩ ?_
  rotate_left; (intro w hSw; (try dsimp only at hSw); first | (go_simp; done) | (go_simp; with_reducible rfl))
  simp only [List.getElem_toArray, List.getElem_cons_zero, List.getElem_cons_succ, Act.put, List.setIfInBounds_toArray, List.set_cons_zero, List.set_cons_succ]
  refine wpAnyR_done (by kernel_rfl) ?_ _
  clear hS4
  go_wp2_with fail
  go_ret
  exact ⟨rfl, _, _, _, stepped0 H0.out HK2.out HST.out⟩

set_option maxRecDepth 100000 in
set_option maxHeartbeats 3200000 in
theorem both_fill (h : PairAt w B tp rp mn lt lr s) (ha : a ≤ 4294967295) (hk : k ≤ 4294967295) :
    Calls Try.prog 24 #[.pointer (some ⟨tp, 0, none⟩), po, .pointer (some ⟨rp, 0, none⟩), pr, .agg #[.int .i64 3, .bool s2, .bool o2, .int .u32 (a : Int), .int .u32 (fr : Int), .int .u32 (k : Int), .int .u8 x.t, .int .u64 x.lo, .int .u64 x.hi, .slice L m c]] w fun e w' => e = .returned (.bool true) ∧ ∃ s' lt' lr', Stepped w w' B tp rp mn lt lr s lt' lr' s' := by
  have hka : Kept S0 w (w.alloc (.cells #[.int .i64 3, .bool s2, .bool o2, .int .u32 (a : Int), .int .u32 (fr : Int), .int .u32 (k : Int), .int .u8 x.t, .int .u64 x.lo, .int .u64 x.hi, .slice L m c] 62)) := (Kept.refl S0 w).alloc _
  have H0 := Lib.hid h
  have H1 := Lib.hid (h.kept0 hka)
  have hB := Blk.new w 62 #[.int .i64 3, .bool s2, .bool o2, .int .u32 (a : Int), .int .u32 (fr : Int), .int .u32 (k : Int), .int .u8 x.t, .int .u64 x.lo, .int .u64 x.hi, .slice L m c]
  have r0 := hB.cell 0
  have HB := Lib.hid hB
  have e1 : ∀ z : Int, (z == z) = true := fun z => beq_self_eq_true z
  have hxl : ∀ i, SP tp rp lt lr i → i ≠ w.heap.size := fun i hi => by have := (h.low i hi).2; omega
  have HXL := Lib.hid hxl
  clear h hB hxl
  go_enter Try.func24, Try.ntmps24
  go_wp2_with fail
  clear r0
  have hdd := (Kept.refl S0 (w.alloc (.cells #[.int .i64 3, .bool s2, .bool o2, .int .u32 (a : Int), .int .u32 (fr : Int), .int .u32 (k : Int), .int .u8 x.t, .int .u64 x.lo, .int .u64 x.hi, .slice L m c] 62))).drew
  have HK2 := Lib.hid (hka.then0 hdd)
  have HB2 := Lib.hid (hdd.blk HB.out (fun x => x))
  have HP2 := Lib.hid (H1.out.kept0 hdd)
  clear hka hdd HB H1
  generalize w.heap.size = xb at HXL HB2 ⊢
  refine wp_region_R (fun w' => w'.cell? ⟨xb, 3, none⟩ = some (.int .u32 (a : Int)) ∧ w'.cell? ⟨xb, 5, none⟩ = some (.int .u32 (k : Int)) ∧ w'.cell? ⟨xb, 6, none⟩ = some (.int .u8 x.t) ∧ w'.cell? ⟨xb, 7, none⟩ = some (.int .u64 x.lo) ∧ w'.cell? ⟨xb, 8, none⟩ = some (.int .u64 x.hi)) [] (by kernel_rfl) ?_
  generalize (w.alloc (.cells #[.int .i64 3, .bool s2, .bool o2, .int .u32 (a : Int), .int .u32 (fr : Int), .int .u32 (k : Int), .int .u8 x.t, .int .u64 x.lo, .int .u64 x.hi, .slice L m c] 62)).drew = w2 at *
  have hS : w2.cell? ⟨xb, 3, none⟩ = some (.int .u32 (a : Int)) ∧ w2.cell? ⟨xb, 5, none⟩ = some (.int .u32 (k : Int)) ∧ w2.cell? ⟨xb, 6, none⟩ = some (.int .u8 x.t) ∧ w2.cell? ⟨xb, 7, none⟩ = some (.int .u64 x.lo) ∧ w2.cell? ⟨xb, 8, none⟩ = some (.int .u64 x.hi) := ⟨HB2.out.cell 3, HB2.out.cell 5, HB2.out.cell 6, HB2.out.cell 7, HB2.out.cell 8⟩
  refine wpAnyR_take 0 (v := ?_) rfl (by kernel_rfl) (by kernel_rfl) (by kernel_rfl) (by kernel_rfl) (fun _ _ _ h => h) hS ⟨by rfl, ?_⟩ ?_
  rotate_left; (intro w hSw; (try dsimp only at hSw); first | (go_simp; done) | (go_simp; with_reducible rfl))
  simp only [List.getElem_toArray, List.getElem_cons_zero, Act.put, List.setIfInBounds_toArray, List.set_cons_zero, List.set_cons_succ]
  refine wpAnyR_take 1 (v := ?_) rfl (by kernel_rfl) (by kernel_rfl) (by kernel_rfl) (by kernel_rfl) (fun _ _ _ h => h) hS ⟨by rfl, ?_⟩ ?_
  rotate_left; (intro w hSw; (try dsimp only at hSw); first | (go_simp; done) | (go_simp; with_reducible rfl))
  simp only [List.getElem_toArray, List.getElem_cons_zero, List.getElem_cons_succ, Act.put, List.setIfInBounds_toArray, List.set_cons_zero, List.set_cons_succ]
  refine wpAnyR_take 2 (v := ?_) rfl (by kernel_rfl) (by kernel_rfl) (by kernel_rfl) (by kernel_rfl) (fun _ _ _ h => h) hS ⟨by rfl, ?_⟩ ?_
  rotate_left; (intro w hSw; (try dsimp only at hSw); first | (go_simp; done) | (go_simp; with_reducible rfl))
  simp only [List.getElem_toArray, List.getElem_cons_zero, List.getElem_cons_succ, Act.put, List.setIfInBounds_toArray, List.set_cons_zero, List.set_cons_succ]
  refine wpAnyR_take 3 (v := ?_) rfl (by kernel_rfl) (by kernel_rfl) (by kernel_rfl) (by kernel_rfl) (fun _ _ _ h => h) hS ⟨by rfl, ?_⟩ ?_
  rotate_left; (intro w hSw; (try dsimp only at hSw); first | (go_simp; done) | (go_simp; with_reducible rfl))
  simp only [List.getElem_toArray, List.getElem_cons_zero, List.getElem_cons_succ, Act.put, List.setIfInBounds_toArray, List.set_cons_zero, List.set_cons_succ]
  refine wpAnyR_take 4 (v := ?_) rfl (by kernel_rfl) (by kernel_rfl) (by kernel_rfl) (by kernel_rfl) (fun _ _ _ h => h) hS ⟨by rfl, ?_⟩ ?_
  rotate_left; (intro w hSw; (try dsimp only at hSw); first | (go_simp; done) | (go_simp; with_reducible rfl))
  simp only [List.getElem_toArray, List.getElem_cons_zero, List.getElem_cons_succ, Act.put, List.setIfInBounds_toArray, List.set_cons_zero, List.set_cons_succ]
  refine wpAnyR_take 5 (v := ?_) rfl (by kernel_rfl) (by kernel_rfl) (by kernel_rfl) (by kernel_rfl) (fun _ _ _ h => h) hS ⟨by rfl, ?_⟩ ?_
  rotate_left; (intro w hSw; (try dsimp only at hSw); first | (go_simp; done) | (go_simp; with_reducible rfl))
  simp only [List.getElem_toArray, List.getElem_cons_zero, List.getElem_cons_succ, Act.put, List.setIfInBounds_toArray, List.set_cons_zero, List.set_cons_succ]
  refine wpAnyR_take 6 (v := ?_) rfl (by kernel_rfl) (by kernel_rfl) (by kernel_rfl) (by kernel_rfl) (fun _ _ _ h => h) hS ⟨by rfl, ?_⟩ ?_
  rotate_left; (intro w hSw; (try dsimp only at hSw); first | (go_simp; done) | (go_simp; with_reducible rfl))
  simp only [List.getElem_toArray, List.getElem_cons_zero, List.getElem_cons_succ, Act.put, List.setIfInBounds_toArray, List.set_cons_zero, List.set_cons_succ]
  refine wpAnyR_take 8 (v := ?_) rfl (by kernel_rfl) (by kernel_rfl) (by kernel_rfl) (by kernel_rfl) (fun _ _ _ h => h) hS ⟨by rfl, ?_⟩ ?_
  rotate_left; (intro w hSw; (try dsimp only at hSw); first | (go_simp; done) | (go_simp; with_reducible rfl))
  simp only [List.getElem_toArray, List.getElem_cons_zero, List.getElem_cons_succ, Act.put, List.setIfInBounds_toArray, List.set_cons_zero, List.set_cons_succ]
  refine wpAnyR_take 9 (v := ?_) rfl (by kernel_rfl) (by kernel_rfl) (by kernel_rfl) (by kernel_rfl) (fun _ _ _ h => h) hS ⟨by rfl, ?_⟩ ?_
  rotate_left; (intro w hSw; (try dsimp only at hSw); first | (go_simp; done) | (go_simp; with_reducible rfl))
  simp only [List.getElem_toArray, List.getElem_cons_zero, List.getElem_cons_succ, Act.put, List.setIfInBounds_toArray, List.set_cons_zero, List.set_cons_succ]
  refine wpAnyR_take 10 (v := ?_) rfl (by kernel_rfl) (by kernel_rfl) (by kernel_rfl) (by kernel_rfl) (fun _ _ _ h => h) hS ⟨by rfl, ?_⟩ ?_
  rotate_left; (intro w hSw; (try dsimp only at hSw); first | (go_simp; done) | (go_simp; with_reducible rfl))
  simp only [List.getElem_toArray, List.getElem_cons_zero, List.getElem_cons_succ, Act.put, List.setIfInBounds_toArray, List.set_cons_zero, List.set_cons_succ]
  refine wpAnyR_take 11 (v := ?_) rfl (by kernel_rfl) (by kernel_rfl) (by kernel_rfl) (by kernel_rfl) (fun _ _ _ h => h) hS ⟨by rfl, ?_⟩ ?_
  rotate_left; (intro w hSw; (try dsimp only at hSw); first | (go_simp; done) | (go_simp; with_reducible rfl))
  simp only [List.getElem_toArray, List.getElem_cons_zero, List.getElem_cons_succ, Act.put, List.setIfInBounds_toArray, List.set_cons_zero, List.set_cons_succ]
  refine wpAnyR_take 12 (v := ?_) rfl (by kernel_rfl) (by kernel_rfl) (by kernel_rfl) (by kernel_rfl) (fun _ _ _ h => h) hS ⟨by rfl, ?_⟩ ?_
  rotate_left; (intro w hSw; (try dsimp only at hSw); first | (go_simp; done) | (go_simp; with_reducible rfl))
  simp only [List.getElem_toArray, List.getElem_cons_zero, List.getElem_cons_succ, Act.put, List.setIfInBounds_toArray, List.set_cons_zero, List.set_cons_succ]
  refine wpAnyR_take 13 (v := ?_) rfl (by kernel_rfl) (by kernel_rfl) (by kernel_rfl) (by kernel_rfl) (fun _ _ _ h => h) hS ⟨by rfl, ?_⟩ ?_
  rotate_left; (intro w hSw; (try dsimp only at hSw); first | (go_simp; done) | (go_simp; with_reducible rfl))
  simp only [List.getElem_toArray, List.getElem_cons_zero, List.getElem_cons_succ, Act.put, List.setIfInBounds_toArray, List.set_cons_zero, List.set_cons_succ]
  refine wpAnyR_take 14 (v := ?_) rfl (by kernel_rfl) (by kernel_rfl) (by kernel_rfl) (by kernel_rfl) (fun _ _ _ h => h) hS ⟨by rfl, ?_⟩ ?_
  rotate_left; (intro w hSw; (try dsimp only at hSw); first | (go_simp; done) | (go_simp; with_reducible rfl))
  simp only [List.getElem_toArray, List.getElem_cons_zero, List.getElem_cons_succ, Act.put, List.setIfInBounds_toArray, List.set_cons_zero, List.set_cons_succ]
  refine wpAnyR_one 7 rfl (by kernel_rfl) (fun K hK1 => ?_)
  go_simp
  go_at_call 18
  refine (fill_is a k x HP2.out.tab HP2.out.hn HP2.out.hel ha hk).mono ?_
  rintro e w3 ⟨rfl, hm3, hk3⟩
  have hb3 := hk3.blk HB2.out (fun e => HXL.out _ (.inr (.inr (.inl e))) rfl)
  have hS3 : w3.cell? ⟨xb, 3, none⟩ = some (.int .u32 (a : Int)) ∧ w3.cell? ⟨xb, 5, none⟩ = some (.int .u32 (k : Int)) ∧ w3.cell? ⟨xb, 6, none⟩ = some (.int .u8 x.t) ∧ w3.cell? ⟨xb, 7, none⟩ = some (.int .u64 x.lo) ∧ w3.cell? ⟨xb, 8, none⟩ = some (.int .u64 x.hi) := ⟨hb3.cell 3, hb3.cell 5, hb3.cell 6, hb3.cell 7, hb3.cell 8⟩
  have HR3 := Lib.hid (HP2.out.ref1 (Kept.so_st hk3))
  have HK3 := Lib.hid hk3
  have HB3 := Lib.hid hb3
  have HM3 := Lib.hid hm3
  refine hK1.out _ _ (fun _ => hS3) ?_
  clear hK1 K hS HB2 hk3 hb3 hm3

  refine wpAnyR_one 15 rfl (by kernel_rfl) (fun K hK2 => ?_)
  go_simp
  go_at_call 38
  refine (rfill_is a k x HR3.out HP2.out.hn HP2.out.hel ha hk).mono ?_
  rintro e w4 ⟨rfl, hm4, hk4⟩
  have hb4 := hk4.blk HB3.out (fun e => HXL.out _ (.inr (.inr (.inr e))) rfl)
  have hS4 : w4.cell? ⟨xb, 3, none⟩ = some (.int .u32 (a : Int)) ∧ w4.cell? ⟨xb, 5, none⟩ = some (.int .u32 (k : Int)) ∧ w4.cell? ⟨xb, 6, none⟩ = some (.int .u8 x.t) ∧ w4.cell? ⟨xb, 7, none⟩ = some (.int .u64 x.lo) ∧ w4.cell? ⟨xb, 8, none⟩ = some (.int .u64 x.hi) := ⟨hb4.cell 3, hb4.cell 5, hb4.cell 6, hb4.cell 7, hb4.cell 8⟩
  have HST := Lib.hid (HP2.out.step HM3.out (Kept.so_st HK3.out) (.inl rfl) hm4 (Kept.mono hk4 (fun _ e => .inr e)) (.inl rfl) HP2.out.hn)
  refine hK2.out _ _ (fun _ => hS4) ?_
  clear hK2 K hS3 HK3 HB3 HM3 HR3 hb4 hm4 hk4
  refine wpAnyR_take 16 (v := ?_) rfl (by kernel_rfl) (by kernel_rfl) (by kernel_rfl) (by kernel_rfl) (fun _ _ _ h => h) hS4 ⟨by rfl, ?_⟩ ?_
  rotate_left; (intro w hSw; (try dsimp only at hSw); first | (go_simp; done) | (go_simp; with_reducible rfl))
  simp only [List.getElem_toArray, List.getElem_cons_zero, List.getElem_cons_succ, Act.put, List.setIfInBounds_toArray, List.set_cons_zero, List.set_cons_succ]
  refine wpAnyR_take 17 (v := ?_) rfl (by kernel_rfl) (by kernel_rfl) (by kernel_rfl) (by kernel_rfl) (fun _ _ _ h => h) hS4 ⟨by rfl, ?_⟩ ?_
  rotate_left; (intro w hSw; (try dsimp only at hSw); first | (go_simp; done) | (go_simp; with_reducible rfl))
  simp only [List.getElem_toArray, List.getElem_cons_zero, List.getElem_cons_succ, Act.put, List.setIfInBounds_toArray, List.set_cons_zero, List.set_cons_succ]
  refine wpAnyR_done (by kernel_rfl) ?_ _
  clear hS4
  go_wp2_with fail
  go_ret
  exact ⟨rfl, _, _, _, stepped0 H0.out HK2.out HST.out⟩

set_option maxRecDepth 100000 in
set_option maxHeartbeats 3200000 in
theorem both_grow (h : PairAt w B tp rp mn lt lr s) (hk : k ≤ 4294967295) :
    Calls Try.prog 24 #[.pointer (some ⟨tp, 0, none⟩), po, .pointer (some ⟨rp, 0, none⟩), pr, .agg #[.int .i64 2, .bool s2, .bool o2, .int .u32 (a : Int), .int .u32 (fr : Int), .int .u32 (k : Int), .int .u8 x.t, .int .u64 x.lo, .int .u64 x.hi, .slice L m c]] w fun e w' => e = .returned (.bool true) ∧ ∃ s' lt' lr', Stepped w w' B tp rp mn lt lr s lt' lr' s' := by
  have hka : Kept S0 w (w.alloc (.cells #[.int .i64 2, .bool s2, .bool o2, .int .u32 (a : Int), .int .u32 (fr : Int), .int .u32 (k : Int), .int .u8 x.t, .int .u64 x.lo, .int .u64 x.hi, .slice L m c] 62)) := (Kept.refl S0 w).alloc _
  have H0 := Lib.hid h
  have H1 := Lib.hid (h.kept0 hka)
  have hB := Blk.new w 62 #[.int .i64 2, .bool s2, .bool o2, .int .u32 (a : Int), .int .u32 (fr : Int), .int .u32 (k : Int), .int .u8 x.t, .int .u64 x.lo, .int .u64 x.hi, .slice L m c]
  have r0 := hB.cell 0
  have r5 := hB.cell 5
  have r6 := hB.cell 6
  have r7 := hB.cell 7
  have r8 := hB.cell 8
  have HB := Lib.hid hB
  have e1 : ∀ z : Int, (z == z) = true := fun z => beq_self_eq_true z
  have hxl : ∀ i, SP tp rp lt lr i → i ≠ w.heap.size := fun i hi => by have := (h.low i hi).2; omega
  have HXL := Lib.hid hxl
  clear h hB hxl
  go_enter Try.func24, Try.ntmps24
  go_wp2_with fail
  refine (grow_is k x H1.out.tab H1.out.hn H1.out.hel H1.out.h3 H1.out.h4 H1.out.hB hk).mono ?_
  rintro e w3 ⟨rfl, lj, hm3, hk3, hl3⟩
  have hno3 : ¬ ST tp lt w.heap.size := fun e => HXL.out _ (e.elim (fun e => .inl e) (fun e => .inr (.inr (.inl e)))) rfl
  have hb3 := hk3.blk HB.out hno3
  have q5 := hb3.cell 5
  have q6 := hb3.cell 6
  have q7 := hb3.cell 7
  have q8 := hb3.cell 8
  have HR3 := Lib.hid (H1.out.ref1 hk3)
  have HK3 := Lib.hid hk3
  have HM3 := Lib.hid hm3
  have HL3 := Lib.hid hl3
  clear r0 r5 r6 r7 r8 hb3 hk3 hm3 hl3 HB hno3
  go_wp2_with fail
  refine (rgrow_is k x HR3.out H1.out.hn H1.out.hel H1.out.h3 H1.out.h4 (Nat.le_trans H1.out.hB HK3.out.size) hk).mono ?_
  rintro e w4 ⟨rfl, lj2, hm4, hk4, hl4⟩
  have hnn : s.growN k x ≤ 16384 := by
    unfold PT.growN
    by_cases hg : fitB x.t x.lo x.hi s.el = true ∧ growB s.n k s.mx s.bd = true
    · rw [if_pos hg]
      have h1 := hg.2
      unfold growB at h1
      simp at h1
      omega
    · rw [if_neg hg]; exact H1.out.hn
  have HST := Lib.hid (H1.out.step HM3.out HK3.out HL3.out hm4 hk4 hl4 hnn)
  clear q5 q6 q7 q8 hm4 hk4 hl4 hnn
  go_wp2_with fail
  go_ret
  exact ⟨rfl, _, _, _, stepped0 H0.out hka HST.out⟩
end
end Go.Proofs.Ytpeekldngelkkaa
