/- The walk of the statement TabPlays. No condition. -/
import Derived.Test.YtpeekldngelkkaaLTabPa
namespace Go.Proofs.Ytpeekldngelkkaa
open Go.RowKit

/-- Two pairs that do not meet. -/
structure Four (w0 w : World) (tp rp tq rq : Nat) (mn1 mn2 : Int) : Prop where
  ex : ∃ (s q : PT) (lt lr lt2 lr2 : Value), PairAt w w0.heap.size tp rp mn1 lt lr s ∧ PairAt w w0.heap.size tq rq mn2 lt2 lr2 q ∧ ∀ i, SP tp rp lt lr i → ¬ SP tq rq lt2 lr2 i
  kept : Kept S0 w0 w

theorem Four.swap {w0 w : World} {tp rp tq rq : Nat} {mn1 mn2 : Int} (h : Four w0 w tp rp tq rq mn1 mn2) : Four w0 w tq rq tp rp mn2 mn1 := by
  obtain ⟨s, q, lt, lr, lt2, lr2, h1, h2, h3⟩ := h.ex
  exact ⟨⟨q, s, lt2, lr2, lt, lr, h2, h1, fun i a b => h3 i b a⟩, h.kept⟩

theorem Four.kept0 {w0 w w' : World} {tp rp tq rq : Nat} {mn1 mn2 : Int} (h : Four w0 w tp rp tq rq mn1 mn2) (hk : Kept S0 w w') : Four w0 w' tp rp tq rq mn1 mn2 := by
  obtain ⟨s, q, lt, lr, lt2, lr2, h1, h2, h3⟩ := h.ex
  exact ⟨⟨s, q, lt, lr, lt2, lr2, h1.kept0 hk, h2.kept0 hk, h3⟩, h.kept.then0 hk⟩

theorem ActOkT.more {w w' : World} {B : Nat} {a : ActT} (h : ActOkT w B a) (hk : Kept S0 w w') (hB : B ≤ w.heap.size) : ActOkT w' B a :=
  ⟨h.ha, h.hf, h.hk, h.sl.kept hk hB (fun _ e => e.elim), h.z, h.mB, h.mc⟩

theorem Four.both {w0 w : World} {tp rp tq rq : Nat} {mn1 mn2 : Int} (h : Four w0 w tp rp tq rq mn1 mn2) (a : ActT) (ha : ActOkT w0 w0.heap.size a) :
    Calls Try.prog 24 #[.pointer (some ⟨tp, 0, none⟩), .pointer (some ⟨tq, 0, none⟩), .pointer (some ⟨rp, 0, none⟩), .pointer (some ⟨rq, 0, none⟩), .agg a.cells.toArray] w fun e w' => e = .returned (.bool true) ∧ Four w0 w' tp rp tq rq mn1 mn2 := by
  obtain ⟨s, q, lt, lr, lt2, lr2, h1, h2, h3⟩ := h.ex
  refine (both_any a h1 h2 h3 (ha.more h.kept (Nat.le_refl _))).mono ?_
  rintro e w1 ⟨rfl, s', lt', lr', hs⟩
  refine ⟨rfl, ⟨s', q, lt', lr', lt2, lr2, hs.pair, h2.away hs.kept h3, fun i hi hq => ?_⟩, h.kept.trans_ hs.kept (fun i hi => .inr (h1.low i hi).1)⟩
  have hlow := (h2.low i hq).2
  rcases hi with e | e | e | e
  · exact h3 i (.inl e) hq
  · exact h3 i (.inr (.inl e)) hq
  · rcases hs.own i (.inl e) with e' | e'
    · exact h3 i (e'.elim (fun x => .inr (.inr (.inl x))) (fun x => .inr (.inr (.inr x)))) hq
    · omega
  · rcases hs.own i (.inr e) with e' | e'
    · exact h3 i (e'.elim (fun x => .inr (.inr (.inl x))) (fun x => .inr (.inr (.inr x)))) hq
    · omega

theorem Four.alike {w0 w : World} {tp rp tq rq : Nat} {mn1 mn2 : Int} (h : Four w0 w tp rp tq rq mn1 mn2) :
    Calls Try.prog 25 #[.pointer (some ⟨tp, 0, none⟩), .pointer (some ⟨rp, 0, none⟩)] w fun e w' => e = .returned (.bool true) ∧ Four w0 w' tp rp tq rq mn1 mn2 := by
  obtain ⟨s, q, lt, lr, lt2, lr2, h1, h2, h3⟩ := h.ex
  refine (alike_any h1).mono ?_
  rintro e w1 ⟨rfl, hk⟩
  exact ⟨rfl, h.kept0 hk⟩

theorem four_new {w0 wa wb wc wd : World} {tp rp tq rq n1 n2 : Nat} {el1 mx1 el2 mx2 : Int} {bd1 bd2 : Bool} {lt lr lt2 lr2 : Value} {x y : V3} {w00 : World}
    (h0 : Kept S0 w0 w00) (ht : TabAt wa tp w00.heap.size n1 el1 n1 mx1 bd1 lt (fun _ => x)) (ka : Kept S0 w00 wa) (ht2 : TabAt wb tq wa.heap.size n2 el2 n2 mx2 bd2 lt2 (fun _ => y)) (kb : Kept S0 wa wb)
    (hr : RefAt wc rp wb.heap.size n1 el1 n1 mx1 bd1 lr (fun _ => x)) (kc : Kept S0 wb wc) (hr2 : RefAt wd rq wc.heap.size n2 el2 n2 mx2 bd2 lr2 (fun _ => y)) (kd : Kept S0 wc wd)
    (l1 : n1 ≤ 16384) (l2 : n2 ≤ 16384) (e1 : el1 = 112 ∨ el1 = 111) (e2 : el2 = 112 ∨ el2 = 111) (h3 : 0 ≤ mx1) (h4 : mx1 ≤ 4294967295) (h5 : 0 ≤ mx2) (h6 : mx2 ≤ 4294967295) :
    Four w0 wd tp rp tq rq n1 n2 := by
  have s0 := h0.size
  have sa := ka.size
  have sb := kb.size
  have sc := kc.size
  have sd := kd.size
  have o1 := fun g h => ht.own.lt g h
  have o2 := fun g h => ht2.own.lt g h
  have o3 := fun g h => hr.own.lt g h
  have o4 := fun g h => hr2.own.lt g h
  have p1 := ht.lo
  have p2 := ht2.lo
  have p3 := hr.lo
  have p4 := hr2.lo
  have q1 := ht.obj.lt
  have q2 := ht2.obj.lt
  have q3 := hr.obj.lt
  have q4 := hr2.obj.lt
  refine ⟨⟨⟨el1, mx1, bd1, n1, fun _ => x⟩, ⟨el2, mx2, bd2, n2, fun _ => y⟩, lt, lr, lt2, lr2, ⟨?_, ?_, l1, e1, h3, h4, by omega, fun g a b => ?_⟩, ⟨?_, ?_, l2, e2, h5, h6, by omega, fun g a b => ?_⟩, fun i a b => ?_⟩, (((h0.then0 ka).then0 kb).then0 kc).then0 kd⟩
  · have h := ((ht.kept0 kb).kept0 kc).kept0 kd
    exact ⟨h.obj, h.own.mono (by omega), by omega⟩
  · have h := hr.kept0 kd
    exact ⟨h.obj, h.own.mono (by omega), by omega⟩
  · have := o1 g a; have := o3 g b; omega
  · have h := (ht2.kept0 kc).kept0 kd
    exact ⟨h.obj, h.own.mono (by omega), by omega⟩
  · exact ⟨hr2.obj, hr2.own.mono (by omega), by omega⟩
  · have := o2 g a; have := o4 g b; omega
  · rcases a with a | a | a | a <;> rcases b with b | b | b | b
    all_goals
      first
      | omega
      | (have := o1 i a; first | omega | (have := o2 i b; omega) | (have := o4 i b; omega))
      | (have := o3 i a; first | omega | (have := o2 i b; omega) | (have := o4 i b; omega))
      | (have := o2 i b; omega)
      | (have := o4 i b; omega)


set_option maxRecDepth 100000 in
set_option maxHeartbeats 6400000 in
theorem tabPlays_oo (el1 mx1 el2 mx2 : Int) (mn1 mn2 : Nat) (bd1 bd2 : Bool) (x y : V3) (L : Option Addr) (l lc : Nat) (a : Nat → ActT) (w : World) (h1 : mn1 ≤ 4294967295) (h2 : mn2 ≤ 4294967295) (h3 : 0 ≤ mx1) (h4 : mx1 ≤ 4294967295) (h5 : 0 ≤ mx2) (h6 : mx2 ≤ 4294967295) (hE1 : newE el1 mn1 mx1 bd1 x = 0) (hE2 : newE el2 mn2 mx2 bd2 y = 0) (hL : ActsT w L l a) :
    Calls Try.prog 7 #[.agg #[.int .u8 el1, .int .u32 (mn1 : Int), .int .u32 mx1, .bool bd1], .agg #[.int .u8 el2, .int .u32 (mn2 : Int), .int .u32 mx2, .bool bd2], .agg #[.int .u8 x.t, .int .u64 x.lo, .int .u64 x.hi], .agg #[.int .u8 y.t, .int .u64 y.lo, .int .u64 y.hi], .slice L l lc] w fun e w' => e = .returned (.bool true) ∧ Kept S0 w w' := by
  have HB0 := Lib.hid (boxes_new w el1 mn1 mx1 el2 mn2 mx2 bd1 bd2 x y)
  have HK0 := Lib.hid ((((((Kept.refl S0 w).alloc (.cells #[.int .u8 el1, .int .u32 (mn1 : Int), .int .u32 mx1, .bool bd1] 41)).alloc (.cells #[.int .u8 el2, .int .u32 (mn2 : Int), .int .u32 mx2, .bool bd2] 41)).alloc (.cells #[.int .u8 x.t, .int .u64 x.lo, .int .u64 x.hi] 43)).alloc (.cells #[.int .u8 y.t, .int .u64 y.lo, .int .u64 y.hi] 43)))
  have HL := Lib.hid hL
  have hll := hL.len
  obtain ⟨m1, f1, l1⟩ := new_ok el1 mn1 mx1 bd1 x hE1
  obtain ⟨m2, f2, l2⟩ := new_ok el2 mn2 mx2 bd2 y hE2
  have HN1 := Lib.hid (fun w => newtab_made el1 mx1 mn1 bd1 x w (by omega) h3 h4 m1 f1)
  have HR1 := Lib.hid (fun w => rnew_made el1 mx1 mn1 bd1 x w (by omega) h3 h4 m1 f1)
  have HN2 := Lib.hid (fun w => newtab_made el2 mx2 mn2 bd2 y w (by omega) h5 h6 m2 f2)
  have HR2 := Lib.hid (fun w => rnew_made el2 mx2 mn2 bd2 y w (by omega) h5 h6 m2 f2)
  have HEL1 := Lib.hid (isRef_of m1)
  have HEL2 := Lib.hid (isRef_of m2)
  clear hE1 hE2 m1 m2 f1 f2 hL
  have q00 := HB0.out.b0.cell 0
  have q01 := HB0.out.b0.cell 1
  have q02 := HB0.out.b0.cell 2
  have q03 := HB0.out.b0.cell 3
  have q20 := HB0.out.b2.cell 0
  have q21 := HB0.out.b2.cell 1
  have q22 := HB0.out.b2.cell 2
  go_enter Try.func7, Try.ntmps7
  go_wp2_with fail
  refine (HN1.out _).mono ?_
  rintro e w1 ⟨tb1, lv1, rfl, ht1, hk1⟩
  have HT1 := Lib.hid ht1
  have HKK1 := Lib.hid hk1
  have HB1 := Lib.hid (HB0.out.kept0 hk1)
  clear q00 q01 q02 q03 q20 q21 q22 hk1 HB0 HN1 ht1
  have q10 := HB1.out.b1.cell 0
  have q11 := HB1.out.b1.cell 1
  have q12 := HB1.out.b1.cell 2
  have q13 := HB1.out.b1.cell 3
  have q30 := HB1.out.b3.cell 0
  have q31 := HB1.out.b3.cell 1
  have q32 := HB1.out.b3.cell 2
  go_wp2_with fail
  refine (HN2.out _).mono ?_
  rintro e w2 ⟨tb2, lv2, rfl, ht2, hk2⟩
  have HT2 := Lib.hid ht2
  have HKK2 := Lib.hid hk2
  have HB2 := Lib.hid (HB1.out.kept0 hk2)
  clear q10 q11 q12 q13 q30 q31 q32 hk2 HB1 HN2 ht2
  have q00 := HB2.out.b0.cell 0
  have q01 := HB2.out.b0.cell 1
  have q02 := HB2.out.b0.cell 2
  have q03 := HB2.out.b0.cell 3
  have q20 := HB2.out.b2.cell 0
  have q21 := HB2.out.b2.cell 1
  have q22 := HB2.out.b2.cell 2
  go_wp2_with fail
  refine (HR1.out _).mono ?_
  rintro e w3 ⟨tb3, lv3, rfl, ht3, hk3⟩
  have HT3 := Lib.hid ht3
  have HKK3 := Lib.hid hk3
  have HB3 := Lib.hid (HB2.out.kept0 hk3)
  clear q00 q01 q02 q03 q20 q21 q22 hk3 HB2 HR1 ht3
  have q10 := HB3.out.b1.cell 0
  have q11 := HB3.out.b1.cell 1
  have q12 := HB3.out.b1.cell 2
  have q13 := HB3.out.b1.cell 3
  have q30 := HB3.out.b3.cell 0
  have q31 := HB3.out.b3.cell 1
  have q32 := HB3.out.b3.cell 2
  go_wp2_with fail
  refine (HR2.out _).mono ?_
  rintro e w4 ⟨tb4, lv4, rfl, ht4, hk4⟩
  have HT4 := Lib.hid ht4
  have HKK4 := Lib.hid hk4
  have HB4 := Lib.hid (HB3.out.kept0 hk4)
  clear q10 q11 q12 q13 q30 q31 q32 hk4 HB3 HR2 ht4
  have HF := Lib.hid (four_new HK0.out HT1.out HKK1.out HT2.out HKK2.out HT3.out HKK3.out HT4.out HKK4.out (by omega) (by omega) HEL1.out HEL2.out h3 h4 h5 h6)
  clear HK0 HT1 HT2 HT3 HT4 HKK1 HKK2 HKK3 HKK4 HEL1 HEL2 HB4
  go_wp2_with fail
  go_loopw [19] (fun i wr => ∃ j : Nat, i = .int .i64 (j : Int) ∧ j ≤ 40 ∧ j ≤ l ∧ Four w wr tb1 tb3 tb2 tb4 mn1 mn2) (fun i _ => l - (intOf i).toNat)
  case atStart => exact ⟨0, rfl, by omega, by omega, HF.out⟩
  case round =>
    obtain ⟨j, rfl, hj40, hjl, hF⟩ := hrel
    clear HF
    have HF := Lib.hid hF
    have HK := Lib.hid hF.kept
    clear hF
    by_cases hlt : j < l ∧ j < 40
    · obtain ⟨g1, g2⟩ := hlt
      have hji : (j : Int) < (l : Int) := by omega
      have hj8 : (j : Int) < 40 := by omega
      have uj : IntKind.i64.wrap ((j : Int) + 1) = (j : Int) + 1 := IntWalk.i64_in _ (by omega)
      obtain ⟨b, o, hLe, hbl, hact⟩ := HL.out.acts (by omega)
      subst hLe
      obtain ⟨hcl, hok⟩ := hact j g1
      generalize haj : a j = aj at *
      have hc2 : ∀ i, i < 10 → wr.cell? ⟨b, o + j * 10 + i, none⟩ = aj.cells[i]? := fun i hi => (HK.out.cell (p := ⟨b, o + j * 10 + i, none⟩) hbl (fun x => x)).trans (hcl i hi)
      have q0 : wr.cell? ⟨b, o + j * 10, none⟩ = some (.int .i64 aj.d) := hc2 0 (by omega)
      have qs : wr.cell? ⟨b, o + j * 10 + 1, none⟩ = some (.bool aj.s) := hc2 1 (by omega)
      have q2 : wr.cell? ⟨b, o + j * 10 + 2, none⟩ = some (.bool aj.o) := hc2 2 (by omega)
      have q3 : wr.cell? ⟨b, o + j * 10 + 3, none⟩ = some (.int .u32 (aj.a : Int)) := hc2 3 (by omega)
      have q4 : wr.cell? ⟨b, o + j * 10 + 4, none⟩ = some (.int .u32 (aj.fr : Int)) := hc2 4 (by omega)
      have q5 : wr.cell? ⟨b, o + j * 10 + 5, none⟩ = some (.int .u32 (aj.k : Int)) := hc2 5 (by omega)
      have q6 : wr.cell? ⟨b, o + j * 10 + 6, none⟩ = some (.int .u8 aj.x.t) := hc2 6 (by omega)
      have q7 : wr.cell? ⟨b, o + j * 10 + 7, none⟩ = some (.int .u64 aj.x.lo) := hc2 7 (by omega)
      have q8 : wr.cell? ⟨b, o + j * 10 + 8, none⟩ = some (.int .u64 aj.x.hi) := hc2 8 (by omega)
      have q9 : wr.cell? ⟨b, o + j * 10 + 9, none⟩ = some (.slice aj.L aj.m aj.c) := hc2 9 (by omega)
      have HOK := Lib.hid hok
      clear hact hcl hc2 hok haj
      cases hs : aj.s with
      | true =>
        have hbc : Calls Try.prog 24 #[.pointer (some ⟨tb2, 0, none⟩), .pointer (some ⟨tb1, 0, none⟩), .pointer (some ⟨tb4, 0, none⟩), .pointer (some ⟨tb3, 0, none⟩), .agg #[.int .i64 aj.d, .bool true, .bool aj.o, .int .u32 (aj.a : Int), .int .u32 (aj.fr : Int), .int .u32 (aj.k : Int), .int .u8 aj.x.t, .int .u64 aj.x.lo, .int .u64 aj.x.hi, .slice aj.L aj.m aj.c]] wr fun e w' => e = .returned (.bool true) ∧ Four w w' tb2 tb4 tb1 tb3 mn2 mn1 := by
          have h := HF.out.swap.both aj HOK.out
          unfold ActT.cells at h
          rw [hs] at h
          exact h
        rw [hs] at qs
        have q1 : True := trivial
        clear hs
        go_wp2_with fail
        refine (hbc).mono ?_
        rintro e w6 ⟨rfl, hf6⟩
        have HF6 := Lib.hid hf6.swap
        clear hf6 hbc qs q0 q1 q2 q3 q4 q5 q6 q7 q8 q9
        go_wp2_with fail
        refine (HF6.out.alike).mono ?_
        rintro e w7 ⟨rfl, hf7⟩
        have HF7 := Lib.hid hf7.swap
        clear hf7 HF6
        go_wp2_with fail
        refine (HF7.out.alike).mono ?_
        rintro e w8 ⟨rfl, hf8⟩
        have HF8 := Lib.hid hf8.swap
        clear hf8 HF7
        go_wp2_with fail
        go_roundw
        case rel => exact ⟨j + 1, by go_num, by omega, by omega, HF8.out⟩
        case measure => simp [intOf]; omega
      | false =>
        have hbc : Calls Try.prog 24 #[.pointer (some ⟨tb1, 0, none⟩), .pointer (some ⟨tb2, 0, none⟩), .pointer (some ⟨tb3, 0, none⟩), .pointer (some ⟨tb4, 0, none⟩), .agg #[.int .i64 aj.d, .bool false, .bool aj.o, .int .u32 (aj.a : Int), .int .u32 (aj.fr : Int), .int .u32 (aj.k : Int), .int .u8 aj.x.t, .int .u64 aj.x.lo, .int .u64 aj.x.hi, .slice aj.L aj.m aj.c]] wr fun e w' => e = .returned (.bool true) ∧ Four w w' tb1 tb3 tb2 tb4 mn1 mn2 := by
          have h := HF.out.both aj HOK.out
          unfold ActT.cells at h
          rw [hs] at h
          exact h
        rw [hs] at qs
        have q1 : True := trivial
        clear hs
        go_wp2_with fail
        refine (hbc).mono ?_
        rintro e w6 ⟨rfl, hf6⟩
        have HF6 := Lib.hid hf6
        clear hf6 hbc qs q0 q1 q2 q3 q4 q5 q6 q7 q8 q9
        go_wp2_with fail
        refine (HF6.out.alike).mono ?_
        rintro e w7 ⟨rfl, hf7⟩
        have HF7 := Lib.hid hf7.swap
        clear hf7 HF6
        go_wp2_with fail
        refine (HF7.out.alike).mono ?_
        rintro e w8 ⟨rfl, hf8⟩
        have HF8 := Lib.hid hf8.swap
        clear hf8 HF7
        go_wp2_with fail
        go_roundw
        case rel => exact ⟨j + 1, by go_num, by omega, by omega, HF8.out⟩
        case measure => simp [intOf]; omega
    · have hcase : (l ≤ j) ∨ (j < l ∧ j = 40) := by omega
      clear hlt
      rcases hcase with h | ⟨h1, rfl⟩
      · have g1 : (l : Int) ≤ (j : Int) := by omega
        go_wp2_with fail
        refine (lives_any _).mono ?_
        rintro e w9 ⟨rfl, hk9⟩
        go_wp2_with fail
        go_ret
        exact ⟨rfl, HK.out.then0 hk9⟩
      · have g1 : (((40 : Nat) : Int)) < (l : Int) := by omega
        go_wp2_with fail
        refine (lives_any _).mono ?_
        rintro e w9 ⟨rfl, hk9⟩
        go_wp2_with fail
        go_ret
        exact ⟨rfl, HK.out.then0 hk9⟩

theorem tabPlays_any (el1 mx1 el2 mx2 : Int) (mn1 mn2 : Nat) (bd1 bd2 : Bool) (x y : V3) (L : Option Addr) (l lc : Nat) (a : Nat → ActT) (w : World) (h1 : mn1 ≤ 4294967295) (h2 : mn2 ≤ 4294967295) (h3 : 0 ≤ mx1) (h4 : mx1 ≤ 4294967295) (h5 : 0 ≤ mx2) (h6 : mx2 ≤ 4294967295) (hL : ActsT w L l a) :
    Calls Try.prog 7 #[.agg #[.int .u8 el1, .int .u32 (mn1 : Int), .int .u32 mx1, .bool bd1], .agg #[.int .u8 el2, .int .u32 (mn2 : Int), .int .u32 mx2, .bool bd2], .agg #[.int .u8 x.t, .int .u64 x.lo, .int .u64 x.hi], .agg #[.int .u8 y.t, .int .u64 y.lo, .int .u64 y.hi], .slice L l lc] w fun e w' => e = .returned (.bool true) ∧ Kept S0 w w' := by
  by_cases e1 : newE el1 mn1 mx1 bd1 x = 0
  · by_cases e2 : newE el2 mn2 mx2 bd2 y = 0
    · exact tabPlays_oo el1 mx1 el2 mx2 mn1 mn2 bd1 bd2 x y L l lc a w h1 h2 h3 h4 h5 h6 e1 e2 hL
    · exact tabPlays_ob el1 mx1 el2 mx2 mn1 mn2 bd1 bd2 x y L l lc w h1 h2 h3 h4 h5 h6 e1 e2
  · by_cases e2 : newE el2 mn2 mx2 bd2 y = 0
    · exact tabPlays_bo el1 mx1 el2 mx2 mn1 mn2 bd1 bd2 x y L l lc w h1 h2 h3 h4 h5 h6 e1 e2
    · exact tabPlays_bb el1 mx1 el2 mx2 mn1 mn2 bd1 bd2 x y L l lc w h1 h2 h3 h4 h5 h6 e1 e2
end Go.Proofs.Ytpeekldngelkkaa
