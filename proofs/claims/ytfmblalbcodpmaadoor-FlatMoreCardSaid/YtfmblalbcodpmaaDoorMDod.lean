/- What the proofs lean on, part 4 of Do. No condition. -/
import Derived.Test.YtfmblalbcodpmaaDoorMDoa
import Derived.Test.YtfmblalbcodpmaaDoorMDob
import Derived.Test.YtfmblalbcodpmaaDoorMDoc
import Derived.Stop.BytesEq
import Derived.BigRegion
import Derived.Deep.MidRow
import Derived.Deep.LoopGhost
import Derived.Deep.DeepCutAuto
import Derived.BigQuiet
namespace Go.Proofs.YtfmblalbcodpmaaDoor
open Go.RowKit
/-- The first place in a list, or -1. -/
def firstAt (p : Nat → Bool) : List Nat → Nat → Int
  | [], _ => -1
  | x :: r, k => if p x then (k : Int) else firstAt p r (k + 1)
theorem firstAt_any (p : Nat → Bool) : ∀ (l : List Nat) (k : Nat), (0 ≤ firstAt p l k) = (l.any p = true) ∧ -1 ≤ firstAt p l k
  | [], k => ⟨by simp [firstAt], by simp [firstAt]⟩
  | x :: r, k => by
    unfold firstAt
    cases h : p x with
    | true =>
      simp only [if_true, List.any_cons, h, Bool.true_or, eq_self]
      exact ⟨by simp, by omega⟩
    | false =>
      simp only [Bool.false_eq_true, if_false, List.any_cons, h, Bool.false_or]
      exact firstAt_any p r (k + 1)
theorem firstAt_drop (p : Nat → Bool) {l : List Nat} {k : Nat} {x : Nat} (h : l[k]? = some x) : firstAt p (l.drop k) k = if p x then (k : Int) else firstAt p (l.drop (k + 1)) (k + 1) := by
  have hk := (List.getElem?_eq_some_iff.1 h).1
  have he := (List.getElem?_eq_some_iff.1 h).2
  rw [List.drop_eq_getElem_cons hk, he, firstAt]
set_option maxRecDepth 100000 in
set_option maxHeartbeats 1600000 in
theorem fit1_any (t : Nat) (w : World) : Calls Tryd.prog 81 #[.int .u8 (t : Int)] w fun e w' => e = .returned (.bool (!isT t)) ∧ w' = w := by
  have H := Lib.hid (is_any t w)
  go_enter Tryd.func81, Tryd.ntmps81
  go_wp2_with fail
  refine H.out.mono ?_
  rintro e w' ⟨rfl, rfl⟩
  go_wp2_with fail
  go_ret
  exact ⟨rfl, rfl⟩
set_option maxRecDepth 100000 in
set_option maxHeartbeats 3200000 in
theorem ift_any (A : Option Addr) (n c : Nat) (L : List Nat) (w : World) (hA : SlL w 1 A n c (L.map nV)) (hn : n ≤ 9223372036854775806) :
    Calls Tryd.prog 97 #[.slice A n c, .func (.func 81) #[] #[]] w fun e w' => e = .returned (.int .i64 (firstAt (fun t => !isT t) L 0)) ∧ w' = w := by
  have hl : L.length = n := by have := hA.len; simpa using this
  have HA := Lib.hid hA
  have HL := Lib.hid hl
  clear hl hA
  go_enter Tryd.func97, Tryd.ntmps97
  go_wp2_with fail
  go_loopw [8] (fun i wr => ∃ k : Nat, k ≤ n ∧ i = .int .i64 (k : Int) ∧ wr = w ∧ firstAt (fun t => !isT t) (L.drop k) k = firstAt (fun t => !isT t) L 0) (fun i _ => n + 1 - (intOf i).toNat)
  case atStart => exact ⟨0, Nat.zero_le _, rfl, rfl, rfl⟩
  case round =>
    obtain ⟨k, hk, rfl, rfl, hlm⟩ := hrel
    have HLM := Lib.hid hlm
    clear hlm
    by_cases hlt : k < n
    · obtain ⟨b, o, rfl, hc⟩ := HA.out.at (by omega)
      have hkL : k < L.length := by have := HL.out; omega
      have d1 : wr.cell? ⟨b, o + k, none⟩ = some (.int .u8 ((L[k] : Nat) : Int)) := hc k _ (by simp [List.getElem?_eq_getElem hkL, nV])
      have hlti : (k : Int) < (n : Int) := by omega
      have HF := Lib.hid (firstAt_drop (fun t => !isT t) (List.getElem?_eq_getElem hkL))
      clear hc
      generalize L[k] = x at *
      clear hkL
      have HC := Lib.hid (fit1_any x wr)
      cases hp : !isT x with
      | true =>
        rw [hp] at HC HF
        have HF2 := Lib.hid (HLM.out.symm.trans HF.out)
        clear hp HF
        go_wp2_with (go_at_call 81; refine HC.out.mono ?_; rintro e w' ⟨rfl, rfl⟩)
        go_ret
        exact ⟨ret_int (by rw [HF2.out]; rfl), rfl⟩
      | false =>
        rw [hp] at HC HF
        have HF2 := Lib.hid (HF.out.symm.trans HLM.out)
        clear hp HF
        go_wp2_with (go_at_call 81; refine HC.out.mono ?_; rintro e w' ⟨rfl, rfl⟩)
        go_roundw
        case rel => exact ⟨k + 1, by omega, by go_num, by first | rfl | trivial, HF2.out⟩
        case measure => simp [intOf]; omega
    · have hall : firstAt (fun t => !isT t) L 0 = -1 := by
        have h := HLM.out
        rw [List.drop_eq_nil_of_le (by have := HL.out; omega)] at h
        exact h.symm
      have HAL := Lib.hid hall
      clear hall
      go_wp2_with fail
      go_ret
      exact ⟨ret_int HAL.out.symm, rfl⟩
set_option maxRecDepth 100000 in
set_option maxHeartbeats 1600000 in
theorem cft_any (A : Option Addr) (n c : Nat) (L : List Nat) (w : World) (hA : SlL w 1 A n c (L.map nV)) (hn : n ≤ 9223372036854775806) :
    Calls Tryd.prog 80 #[.slice A n c, .func (.func 81) #[] #[]] w fun e w' => e = .returned (.bool (L.any (fun t => !isT t))) ∧ w' = w := by
  have H := Lib.hid (ift_any A n c L w hA hn)
  have HP := Lib.hid (firstAt_any (fun t => !isT t) L 0)
  clear hA
  generalize firstAt (fun t => !isT t) L 0 = z at *
  go_enter Tryd.func80, Tryd.ntmps80
  go_wp2_with fail
  refine H.out.mono ?_
  rintro e w' ⟨rfl, rfl⟩
  go_wp2_with fail
  all_goals
    go_ret
    exact ⟨ret_bool (by have h := HP.out.1; rw [Bool.eq_iff_iff, ← h]; simp), rfl⟩
end Go.Proofs.YtfmblalbcodpmaaDoor
namespace Go.Proofs.YtfmblalbcodpmaaDoor
open Go.RowKit
/-- An instruction as cells: its lists are told by their addresses. -/
structure IC where
  op : Nat
  a : Nat
  b : Nat
  n : Nat
  v : Nat → UInt8
  lA : Option Addr
  ln : Nat
  lc : Nat
  tA : Option Addr
  tn : Nat
  tc : Nat
  bk : Nat
  bv : Nat
  bt : Nat
  bA : Option Addr
  bn : Nat
  bc : Nat
  eA : Option Addr
  en : Nat
  ec : Nat
def IC.arr (i : IC) : Array Value := #[.int .u16 (i.op : Int), .int .u32 (i.a : Int), .int .u32 (i.b : Int), .int .u64 (i.n : Int), .int .u8 ((i.v 0).toNat : Int), .int .u8 ((i.v 1).toNat : Int), .int .u8 ((i.v 2).toNat : Int), .int .u8 ((i.v 3).toNat : Int), .int .u8 ((i.v 4).toNat : Int), .int .u8 ((i.v 5).toNat : Int), .int .u8 ((i.v 6).toNat : Int), .int .u8 ((i.v 7).toNat : Int), .int .u8 ((i.v 8).toNat : Int), .int .u8 ((i.v 9).toNat : Int), .int .u8 ((i.v 10).toNat : Int), .int .u8 ((i.v 11).toNat : Int), .int .u8 ((i.v 12).toNat : Int), .int .u8 ((i.v 13).toNat : Int), .int .u8 ((i.v 14).toNat : Int), .int .u8 ((i.v 15).toNat : Int), .slice i.lA i.ln i.lc, .slice i.tA i.tn i.tc, .int .u8 (i.bk : Int), .int .u8 (i.bv : Int), .int .u32 (i.bt : Int), .slice i.bA i.bn i.bc, .slice i.eA i.en i.ec]
def vs16 (v : Nat → UInt8) : List UInt8 := [v 0, v 1, v 2, v 3, v 4, v 5, v 6, v 7, v 8, v 9, v 10, v 11, v 12, v 13, v 14, v 15]
theorem IC.size (i : IC) : i.arr.size = 27 := rfl
/-- Its lists' contents. -/
structure InsC (w : World) (i : IC) (L T : List Nat) : Prop where
  l : SlL w 1 i.lA i.ln i.lc (L.map nV32)
  t : SlL w 1 i.tA i.tn i.tc (T.map nV)
theorem InsC.kept0 {w w' : World} {i : IC} {L T : List Nat} (h : InsC w i L T) (hk : Kept S0 w w') : InsC w' i L T := ⟨h.l.kept0 hk, h.t.kept0 hk⟩
def flatP (x : IC) (L T : List Nat) (y : IC) (M S : List Nat) : Bool :=
  x.op == y.op && x.a == y.a && x.b == y.b && x.n == y.n && vs16 x.v == vs16 y.v && (x.bk == y.bk && x.bv == y.bv && x.bt == y.bt) && decide (L = M) && decide (T = S)
theorem run_eq16 (x y : Nat → UInt8) (w : World) : (binOp .eql 43 (.agg #[.int .u8 ((x 0).toNat : Int), .int .u8 ((x 1).toNat : Int), .int .u8 ((x 2).toNat : Int), .int .u8 ((x 3).toNat : Int), .int .u8 ((x 4).toNat : Int), .int .u8 ((x 5).toNat : Int), .int .u8 ((x 6).toNat : Int), .int .u8 ((x 7).toNat : Int), .int .u8 ((x 8).toNat : Int), .int .u8 ((x 9).toNat : Int), .int .u8 ((x 10).toNat : Int), .int .u8 ((x 11).toNat : Int), .int .u8 ((x 12).toNat : Int), .int .u8 ((x 13).toNat : Int), .int .u8 ((x 14).toNat : Int), .int .u8 ((x 15).toNat : Int)]) (.agg #[.int .u8 ((y 0).toNat : Int), .int .u8 ((y 1).toNat : Int), .int .u8 ((y 2).toNat : Int), .int .u8 ((y 3).toNat : Int), .int .u8 ((y 4).toNat : Int), .int .u8 ((y 5).toNat : Int), .int .u8 ((y 6).toNat : Int), .int .u8 ((y 7).toNat : Int), .int .u8 ((y 8).toNat : Int), .int .u8 ((y 9).toNat : Int), .int .u8 ((y 10).toNat : Int), .int .u8 ((y 11).toNat : Int), .int .u8 ((y 12).toNat : Int), .int .u8 ((y 13).toNat : Int), .int .u8 ((y 14).toNat : Int), .int .u8 ((y 15).toNat : Int)])).run Tryd.prog w = .ok (.bool (vs16 x == vs16 y)) w :=
  run_eql_bytes w 43 5 16 Tryd.underlying43 Tryd.underlying5 (fun w => by
    obtain ⟨i, hi, hz⟩ := Option.map_eq_some_iff.1 (show (Tryd.prog.info? 5).map (·.size) = some 1 from by kernel_rfl)
    simp [sizeOf, typeInfo, hi, hz]) (vs16 x) (vs16 y) rfl rfl
set_option maxRecDepth 100000 in
set_option maxHeartbeats 16000000 in
theorem flat_any (x y : IC) (L T M S : List Nat) (w : World) (hx : InsC w x L T) (hy : InsC w y M S) (hn : x.ln ≤ 1000000000000000 ∧ x.tn ≤ 1000000000000000 ∧ y.ln ≤ 1000000000000000 ∧ y.tn ≤ 1000000000000000) :
    Calls Tryd.prog 82 #[.agg x.arr, .agg y.arr] w fun e w' => e = .returned (.bool (flatP x L T y M S)) ∧ Kept S0 w w' := by
  have hka : Kept S0 w ((w.alloc (.cells x.arr 70)).alloc (.cells y.arr 70)) := ((Kept.refl S0 w).alloc _).alloc _
  have hb1 : Blk ((w.alloc (.cells x.arr 70)).alloc (.cells y.arr 70)) w.heap.size 70 x.arr := (Blk.new w _ _).alloc _
  have hb2 : Blk ((w.alloc (.cells x.arr 70)).alloc (.cells y.arr 70)) (w.heap.size + 1) 70 y.arr := Blk.new1 w _ _ _
  have HX := Lib.hid (hx.kept0 hka)
  have HY := Lib.hid (hy.kept0 hka)
  have HKA := Lib.hid hka
  have HP := Lib.hid (show flatP x L T y M S = (x.op == y.op && x.a == y.a && x.b == y.b && x.n == y.n && vs16 x.v == vs16 y.v && (x.bk == y.bk && x.bv == y.bv && x.bt == y.bt) && decide (L = M) && decide (T = S)) from rfl)
  obtain ⟨hn1, hn2, hn3, hn4⟩ := hn
  clear hx hy hka
  unfold IC.arr at *
  obtain ⟨xop, xa, xb, xn, xv, xlA, xln, xlc, xtA, xtn, xtc, xbk, xbv, xbt, xbA, xbn, xbc, xeA, xen, xec⟩ := x
  obtain ⟨yop, ya, yb, yn, yv, ylA, yln, ylc, ytA, ytn, ytc, ybk, ybv, ybt, ybA, ybn, ybc, yeA, yen, yec⟩ := y
  simp only at *
  have HB1 := Lib.hid hb1
  have HB2 := Lib.hid hb2
  clear hb1 hb2
  have HEQ := Lib.hid (run_eq16 xv yv)
  go_enter Tryd.func82, Tryd.ntmps82
  go_upto_region 1 with fail
  generalize ((w.alloc (.cells #[.int .u16 (xop : Int), .int .u32 (xa : Int), .int .u32 (xb : Int), .int .u64 (xn : Int), .int .u8 ((xv 0).toNat : Int), .int .u8 ((xv 1).toNat : Int), .int .u8 ((xv 2).toNat : Int), .int .u8 ((xv 3).toNat : Int), .int .u8 ((xv 4).toNat : Int), .int .u8 ((xv 5).toNat : Int), .int .u8 ((xv 6).toNat : Int), .int .u8 ((xv 7).toNat : Int), .int .u8 ((xv 8).toNat : Int), .int .u8 ((xv 9).toNat : Int), .int .u8 ((xv 10).toNat : Int), .int .u8 ((xv 11).toNat : Int), .int .u8 ((xv 12).toNat : Int), .int .u8 ((xv 13).toNat : Int), .int .u8 ((xv 14).toNat : Int), .int .u8 ((xv 15).toNat : Int), .slice xlA xln xlc, .slice xtA xtn xtc, .int .u8 (xbk : Int), .int .u8 (xbv : Int), .int .u32 (xbt : Int), .slice xbA xbn xbc, .slice xeA xen xec] 70)).alloc (.cells #[.int .u16 (yop : Int), .int .u32 (ya : Int), .int .u32 (yb : Int), .int .u64 (yn : Int), .int .u8 ((yv 0).toNat : Int), .int .u8 ((yv 1).toNat : Int), .int .u8 ((yv 2).toNat : Int), .int .u8 ((yv 3).toNat : Int), .int .u8 ((yv 4).toNat : Int), .int .u8 ((yv 5).toNat : Int), .int .u8 ((yv 6).toNat : Int), .int .u8 ((yv 7).toNat : Int), .int .u8 ((yv 8).toNat : Int), .int .u8 ((yv 9).toNat : Int), .int .u8 ((yv 10).toNat : Int), .int .u8 ((yv 11).toNat : Int), .int .u8 ((yv 12).toNat : Int), .int .u8 ((yv 13).toNat : Int), .int .u8 ((yv 14).toNat : Int), .int .u8 ((yv 15).toNat : Int), .slice ylA yln ylc, .slice ytA ytn ytc, .int .u8 (ybk : Int), .int .u8 (ybv : Int), .int .u32 (ybt : Int), .slice ybA ybn ybc, .slice yeA yen yec] 70)) = w2 at *
  generalize w.heap.size = g at *
  have c0_0 : w2.cell? ⟨g, 0, none⟩ = some (.int .u16 (xop : Int)) := HB1.out.cell 0
  have c0_1 : w2.cell? ⟨g, 1, none⟩ = some (.int .u32 (xa : Int)) := HB1.out.cell 1
  have c0_2 : w2.cell? ⟨g, 2, none⟩ = some (.int .u32 (xb : Int)) := HB1.out.cell 2
  have c0_3 : w2.cell? ⟨g, 3, none⟩ = some (.int .u64 (xn : Int)) := HB1.out.cell 3
  have c0_4 : w2.cell? ⟨g, 4, none⟩ = some (.int .u8 ((xv 0).toNat : Int)) := HB1.out.cell 4
  have c0_5 : w2.cell? ⟨g, 5, none⟩ = some (.int .u8 ((xv 1).toNat : Int)) := HB1.out.cell 5
  have c0_6 : w2.cell? ⟨g, 6, none⟩ = some (.int .u8 ((xv 2).toNat : Int)) := HB1.out.cell 6
  have c0_7 : w2.cell? ⟨g, 7, none⟩ = some (.int .u8 ((xv 3).toNat : Int)) := HB1.out.cell 7
  have c0_8 : w2.cell? ⟨g, 8, none⟩ = some (.int .u8 ((xv 4).toNat : Int)) := HB1.out.cell 8
  have c0_9 : w2.cell? ⟨g, 9, none⟩ = some (.int .u8 ((xv 5).toNat : Int)) := HB1.out.cell 9
  have c0_10 : w2.cell? ⟨g, 10, none⟩ = some (.int .u8 ((xv 6).toNat : Int)) := HB1.out.cell 10
  have c0_11 : w2.cell? ⟨g, 11, none⟩ = some (.int .u8 ((xv 7).toNat : Int)) := HB1.out.cell 11
  have c0_12 : w2.cell? ⟨g, 12, none⟩ = some (.int .u8 ((xv 8).toNat : Int)) := HB1.out.cell 12
  have c0_13 : w2.cell? ⟨g, 13, none⟩ = some (.int .u8 ((xv 9).toNat : Int)) := HB1.out.cell 13
  have c0_14 : w2.cell? ⟨g, 14, none⟩ = some (.int .u8 ((xv 10).toNat : Int)) := HB1.out.cell 14
  have c0_15 : w2.cell? ⟨g, 15, none⟩ = some (.int .u8 ((xv 11).toNat : Int)) := HB1.out.cell 15
  have c0_16 : w2.cell? ⟨g, 16, none⟩ = some (.int .u8 ((xv 12).toNat : Int)) := HB1.out.cell 16
  have c0_17 : w2.cell? ⟨g, 17, none⟩ = some (.int .u8 ((xv 13).toNat : Int)) := HB1.out.cell 17
  have c0_18 : w2.cell? ⟨g, 18, none⟩ = some (.int .u8 ((xv 14).toNat : Int)) := HB1.out.cell 18
  have c0_19 : w2.cell? ⟨g, 19, none⟩ = some (.int .u8 ((xv 15).toNat : Int)) := HB1.out.cell 19
  have c0_20 : w2.cell? ⟨g, 20, none⟩ = some (.slice xlA xln xlc) := HB1.out.cell 20
  have c0_21 : w2.cell? ⟨g, 21, none⟩ = some (.slice xtA xtn xtc) := HB1.out.cell 21
  have c0_22 : w2.cell? ⟨g, 22, none⟩ = some (.int .u8 (xbk : Int)) := HB1.out.cell 22
  have c0_23 : w2.cell? ⟨g, 23, none⟩ = some (.int .u8 (xbv : Int)) := HB1.out.cell 23
  have c0_24 : w2.cell? ⟨g, 24, none⟩ = some (.int .u32 (xbt : Int)) := HB1.out.cell 24
  have c1_0 : w2.cell? ⟨g + 1, 0, none⟩ = some (.int .u16 (yop : Int)) := HB2.out.cell 0
  have c1_1 : w2.cell? ⟨g + 1, 1, none⟩ = some (.int .u32 (ya : Int)) := HB2.out.cell 1
  have c1_2 : w2.cell? ⟨g + 1, 2, none⟩ = some (.int .u32 (yb : Int)) := HB2.out.cell 2
  have c1_3 : w2.cell? ⟨g + 1, 3, none⟩ = some (.int .u64 (yn : Int)) := HB2.out.cell 3
  have c1_4 : w2.cell? ⟨g + 1, 4, none⟩ = some (.int .u8 ((yv 0).toNat : Int)) := HB2.out.cell 4
  have c1_5 : w2.cell? ⟨g + 1, 5, none⟩ = some (.int .u8 ((yv 1).toNat : Int)) := HB2.out.cell 5
  have c1_6 : w2.cell? ⟨g + 1, 6, none⟩ = some (.int .u8 ((yv 2).toNat : Int)) := HB2.out.cell 6
  have c1_7 : w2.cell? ⟨g + 1, 7, none⟩ = some (.int .u8 ((yv 3).toNat : Int)) := HB2.out.cell 7
  have c1_8 : w2.cell? ⟨g + 1, 8, none⟩ = some (.int .u8 ((yv 4).toNat : Int)) := HB2.out.cell 8
  have c1_9 : w2.cell? ⟨g + 1, 9, none⟩ = some (.int .u8 ((yv 5).toNat : Int)) := HB2.out.cell 9
  have c1_10 : w2.cell? ⟨g + 1, 10, none⟩ = some (.int .u8 ((yv 6).toNat : Int)) := HB2.out.cell 10
  have c1_11 : w2.cell? ⟨g + 1, 11, none⟩ = some (.int .u8 ((yv 7).toNat : Int)) := HB2.out.cell 11
  have c1_12 : w2.cell? ⟨g + 1, 12, none⟩ = some (.int .u8 ((yv 8).toNat : Int)) := HB2.out.cell 12
  have c1_13 : w2.cell? ⟨g + 1, 13, none⟩ = some (.int .u8 ((yv 9).toNat : Int)) := HB2.out.cell 13
  have c1_14 : w2.cell? ⟨g + 1, 14, none⟩ = some (.int .u8 ((yv 10).toNat : Int)) := HB2.out.cell 14
  have c1_15 : w2.cell? ⟨g + 1, 15, none⟩ = some (.int .u8 ((yv 11).toNat : Int)) := HB2.out.cell 15
  have c1_16 : w2.cell? ⟨g + 1, 16, none⟩ = some (.int .u8 ((yv 12).toNat : Int)) := HB2.out.cell 16
  have c1_17 : w2.cell? ⟨g + 1, 17, none⟩ = some (.int .u8 ((yv 13).toNat : Int)) := HB2.out.cell 17
  have c1_18 : w2.cell? ⟨g + 1, 18, none⟩ = some (.int .u8 ((yv 14).toNat : Int)) := HB2.out.cell 18
  have c1_19 : w2.cell? ⟨g + 1, 19, none⟩ = some (.int .u8 ((yv 15).toNat : Int)) := HB2.out.cell 19
  have c1_20 : w2.cell? ⟨g + 1, 20, none⟩ = some (.slice ylA yln ylc) := HB2.out.cell 20
  have c1_21 : w2.cell? ⟨g + 1, 21, none⟩ = some (.slice ytA ytn ytc) := HB2.out.cell 21
  have c1_22 : w2.cell? ⟨g + 1, 22, none⟩ = some (.int .u8 (ybk : Int)) := HB2.out.cell 22
  have c1_23 : w2.cell? ⟨g + 1, 23, none⟩ = some (.int .u8 (ybv : Int)) := HB2.out.cell 23
  have c1_24 : w2.cell? ⟨g + 1, 24, none⟩ = some (.int .u32 (ybt : Int)) := HB2.out.cell 24
  by_cases hop : xop = yop
  rotate_left
  · have jop : ¬ (xop : Int) = (yop : Int) := by omega
    go_wp2_with fail
    go_ret
    exact ⟨ret_bool (by rw [HP.out]; simp [hop]), HKA.out⟩
  subst hop
  by_cases ha : xa = ya
  rotate_left
  · have ja : ¬ (xa : Int) = (ya : Int) := by omega
    go_wp2_with fail
    go_ret
    exact ⟨ret_bool (by rw [HP.out]; simp [ha]), HKA.out⟩
  subst ha
  by_cases hb : xb = yb
  rotate_left
  · have jb : ¬ (xb : Int) = (yb : Int) := by omega
    go_wp2_with fail
    go_ret
    exact ⟨ret_bool (by rw [HP.out]; simp [hb]), HKA.out⟩
  subst hb
  by_cases hn : xn = yn
  rotate_left
  · have jn : ¬ (xn : Int) = (yn : Int) := by omega
    go_wp2_with fail
    go_ret
    exact ⟨ret_bool (by rw [HP.out]; simp [hn]), HKA.out⟩
  subst hn
  have hev := HEQ.out
  cases hv : (vs16 xv == vs16 yv)
  · rw [hv] at hev
    go_wp2_with fail
    go_ret
    exact ⟨ret_bool (by rw [HP.out, hv]; simp), HKA.out⟩
  rw [hv] at hev
  by_cases hbk : xbk = ybk
  rotate_left
  · have jbk : ¬ (xbk : Int) = (ybk : Int) := by omega
    go_wp2_with fail
    go_ret
    exact ⟨ret_bool (by rw [HP.out]; simp [hbk]), HKA.out⟩
  subst hbk
  by_cases hbv : xbv = ybv
  rotate_left
  · have jbv : ¬ (xbv : Int) = (ybv : Int) := by omega
    go_wp2_with fail
    go_ret
    exact ⟨ret_bool (by rw [HP.out]; simp [hbv]), HKA.out⟩
  subst hbv
  by_cases hbt : xbt = ybt
  rotate_left
  · have jbt : ¬ (xbt : Int) = (ybt : Int) := by omega
    go_wp2_with fail
    go_ret
    exact ⟨ret_bool (by rw [HP.out]; simp [hbt]), HKA.out⟩
  subst hbt
  have HV := Lib.hid hv
  clear hv
  have H32 := Lib.hid (eq32_any xlA ylA xln xlc yln ylc L M w2 HX.out.l HY.out.l (by omega) (by omega))
  have HTT := Lib.hid (fun q => eqT_any xtA ytA xtn xtc ytn ytc T S (w2.drewN q) (HX.out.t.kept0 ((Kept.refl S0 w2).drewN q)) (HY.out.t.kept0 ((Kept.refl S0 w2).drewN q)) (by omega) (by omega))
  cases hLM : decide (L = M)
  · rw [hLM] at H32
    have HLM := Lib.hid hLM
    clear hLM
    go_wp2_with (go_at_call 98; refine H32.out.mono ?_; rintro e w' ⟨rfl, q, rfl⟩)
    go_ret
    exact ⟨ret_bool (by rw [HP.out, HLM.out]; simp), HKA.out.drewN q⟩
  · rw [hLM] at H32
    have HLM := Lib.hid hLM
    clear hLM
    go_wp2_with (first | (go_at_call 98; refine H32.out.mono ?_; rintro e w' ⟨rfl, q, rfl⟩; have d0_21 : (w2.drewN q).cell? ⟨g, 21, none⟩ = some (.slice xtA xtn xtc) := c0_21;have d1_21 : (w2.drewN q).cell? ⟨g + 1, 21, none⟩ = some (.slice ytA ytn ytc) := c1_21; generalize hwq : w2.drewN q = w3 at *) | (go_at_call 99; rw [← hwq]; refine (HTT.out q).mono ?_; rintro e w' ⟨rfl, q2, rfl⟩))
    go_ret
    exact ⟨ret_bool (by rw [HP.out, HLM.out, HV.out]; simp), by rw [← hwq]; exact (HKA.out.drewN q).drewN q2⟩
end Go.Proofs.YtfmblalbcodpmaaDoor
namespace Go.Proofs.YtfmblalbcodpmaaDoor
open Go.RowKit
def rightP (k v t : Nat) : Bool := if k = 0 then v == 0 && t == 0 else if k = 1 then isT v && t == 0 else k == 2 && v == 0
set_option maxRecDepth 100000 in
set_option maxHeartbeats 6400000 in
theorem rblock_any (k v t : Nat) (w : World) : Calls Tryd.prog 78 #[.agg #[.int .u8 (k : Int), .int .u8 (v : Int), .int .u32 (t : Int)]] w fun e w' => e = .returned (.bool (rightP k v t)) ∧ Kept S0 w w' := by
  have HI := Lib.hid (fun w => is_any v w)
  by_cases h0 : k = 0
  · subst h0
    go_enter Tryd.func78, Tryd.ntmps78
    go_wp2_with fail
    all_goals
      go_ret
      exact ⟨ret_bool (by first | rfl | (simp [rightP, *]; done) | (rw [Bool.eq_iff_iff]; simp [rightP, *]; done) | (rw [Bool.eq_iff_iff]; simp [rightP, *]; omega)), (Kept.refl S0 w).alloc _⟩
  · have i0 : ¬ (k : Int) = 0 := by omega
    by_cases h1 : k = 1
    · subst h1
      by_cases hv : isT v = true
      · have HV := Lib.hid hv
        rw [hv] at HI
        go_enter Tryd.func78, Tryd.ntmps78
        go_wp2_with (go_at_call 30; refine (HI.out _).mono ?_; rintro e w' ⟨rfl, rfl⟩)
        all_goals
          go_ret
          exact ⟨ret_bool (by first | rfl | (simp [rightP, *]; done) | (rw [Bool.eq_iff_iff]; simp [rightP, *]; done) | (rw [Bool.eq_iff_iff]; simp [rightP, *]; omega)), (Kept.refl S0 w).alloc _⟩
      · have hv' : isT v = false := by simpa using hv
        rw [hv'] at HI
        clear hv
        go_enter Tryd.func78, Tryd.ntmps78
        go_wp2_with (go_at_call 30; refine (HI.out _).mono ?_; rintro e w' ⟨rfl, rfl⟩)
        all_goals
          go_ret
          exact ⟨ret_bool (by first | rfl | (simp [rightP, *]; done) | (rw [Bool.eq_iff_iff]; simp [rightP, *]; done) | (rw [Bool.eq_iff_iff]; simp [rightP, *]; omega)), (Kept.refl S0 w).alloc _⟩
    · have i1 : ¬ (k : Int) = 1 := by omega
      go_enter Tryd.func78, Tryd.ntmps78
      go_wp2_with fail
      all_goals
        go_ret
        exact ⟨ret_bool (by first | rfl | (simp [rightP, *]; done) | (rw [Bool.eq_iff_iff]; simp [rightP, *]; done) | (rw [Bool.eq_iff_iff]; simp [rightP, *]; omega)), (Kept.refl S0 w).alloc _⟩
end Go.Proofs.YtfmblalbcodpmaaDoor
namespace Go.Proofs.YtfmblalbcodpmaaDoor
open Go.RowKit
theorem Blk.setRow {w : World} {g t : Nat} {old : Array Value} (h : Blk w g t old) (cs : Array Value) : Blk (w.setRow g cs) g t cs := by
  unfold Blk at h ⊢
  simp [World.setRow, Array.getElem?_modify, h]
theorem Blk.setRowFar {w : World} {g k t : Nat} {cs : Array Value} (h : Blk w g t cs) (hne : k ≠ g) (vs : Array Value) : Blk (w.setRow k vs) g t cs := by
  unfold Blk at h ⊢
  simp [World.setRow, Array.getElem?_modify, h, hne]
theorem Kept.setRow {S : Nat → Prop} {a w : World} (h : Kept S a w) {g : Nat} (hg : S g ∨ a.heap.size ≤ g) (cs : Array Value) : Kept S a (w.setRow g cs) :=
  ⟨h.os, h.tape, h.output, by simpa [World.setRow] using h.size, fun i hi hn => by
    have hne : g ≠ i := by
      rintro rfl
      rcases hg with hg | hg
      · exact hn hg
      · omega
    rw [← h.block i hi hn]
    simp [World.setRow, Array.getElem?_modify, hne]⟩
def setL : List Value → Nat → Array Value → Array Value
  | [], _, cs => cs
  | v :: r, o, cs => setL r (o + 1) (cs.setIfInBounds o v)
theorem Blk.setCells {g t : Nat} : ∀ {w : World} {cs : Array Value} (_ : Blk w g t cs) (vs : List Value) (o : Nat), Blk (w.setCells g o vs) g t (setL vs o cs)
  | _, _, h, [], _ => h
  | _, _, h, v :: r, o => (h.set_ o v).setCells r (o + 1)
theorem Blk.cast {w : World} {g t : Nat} {cs ds : Array Value} (h : Blk w g t cs) (e : cs = ds) : Blk w g t ds := e ▸ h
theorem Blk.there {w : World} {g t : Nat} {cs : Array Value} (h : Blk w g t cs) (o n : Nat) (hn : o + n ≤ cs.size) : w.there g o n := fun j hj =>
  ⟨by rw [h.cell]; simp; omega, h.frozen _⟩
def wantZ (op : Nat) : IC := ⟨op, 0, 0, 0, fun _ => 0, none, 0, 0, none, 0, 0, 0, 0, 0, none, 0, 0, none, 0, 0⟩
/-- What an instruction would be, if it had nothing but what it may have. -/
def wantP (x : IC) (k : Nat) : IC :=
  if k = 1 then { wantZ x.op with bk := x.bk, bv := x.bv, bt := x.bt, bA := x.bA, bn := x.bn, bc := x.bc, eA := if x.op = 4 then x.eA else none, en := if x.op = 4 then x.en else 0, ec := if x.op = 4 then x.ec else 0 }
  else if k = 2 ∨ k = 4 ∨ k = 6 ∨ k = 7 ∨ k = 8 ∨ k = 10 ∨ k = 12 ∨ k = 13 then { wantZ x.op with a := x.a }
  else if k = 5 ∨ k = 9 ∨ k = 11 then { wantZ x.op with a := x.a, b := x.b }
  else if k = 3 then { wantZ x.op with lA := x.lA, ln := x.ln, lc := x.lc }
  else if k = 16 then { wantZ x.op with a := x.a, n := x.n % 4294967296 }
  else if k = 17 then { wantZ x.op with a := x.a, n := x.n % 4294967296, b := x.b % 256 }
  else if k = 18 then { wantZ x.op with b := x.b % 256 }
  else if k = 19 ∨ k = 24 then { wantZ x.op with v := x.v }
  else if k = 20 ∨ k = 22 then { wantZ x.op with n := x.n % 4294967296 }
  else if k = 21 ∨ k = 23 then { wantZ x.op with n := x.n }
  else if k = 25 ∨ k = 26 then { wantZ x.op with tA := x.tA, tn := x.tn, tc := x.tc }
  else wantZ x.op
def okP (x : IC) (T : List Nat) (k : Nat) : Bool :=
  if k = 1 then rightP x.bk x.bv x.bt else if k = 3 then x.ln != 0 else if k = 25 then x.tn == 1 && isRefT (T.getD 0 0) else if k = 26 then !(T.any fun t => !isT t) else true
def restP (x : IC) (L T : List Nat) (k : Nat) : Bool :=
  flatP (wantP x k) (if k = 3 then L else []) (if k = 25 ∨ k = 26 then T else []) x L T && (wantP x k).bn == x.bn && (wantP x k).en == x.en
def fitsI (x : IC) (L T : List Nat) (k : Nat) : Bool := okP x T k && restP x L T k
def fitsP (x : IC) (L T : List Nat) : Bool := match inf x.op with | none => false | some i => fitsI x L T i.1
theorem and_u64 (n : Nat) : bits .and .u64 (n : Int) 4294967295 = ((n % 4294967296 : Nat) : Int) := by
  have h : bits .and .u64 (n : Int) 4294967295 = IntKind.u64.wrap ((BitVec.ofInt 64 (n : Int) &&& BitVec.ofInt 64 4294967295).toNat : Int) := rfl
  have e2 : (BitVec.ofInt 64 4294967295 : BitVec 64) = BitVec.ofNat 64 4294967295 := by decide
  rw [h, BitVec.ofInt_natCast, e2, BitVec.toNat_and, BitVec.toNat_ofNat, BitVec.toNat_ofNat]
  have e3 : 4294967295 % 2 ^ 64 = 2 ^ 32 - 1 := by decide
  rw [e3, Nat.and_two_pow_sub_one_eq_mod, IntKind.wrap_u64]
  omega
theorem and_u32 (n : Nat) : bits .and .u32 (n : Int) 255 = ((n % 256 : Nat) : Int) := by
  have h : bits .and .u32 (n : Int) 255 = IntKind.u32.wrap ((BitVec.ofInt 32 (n : Int) &&& BitVec.ofInt 32 255).toNat : Int) := rfl
  have e2 : (BitVec.ofInt 32 255 : BitVec 32) = BitVec.ofNat 32 255 := by decide
  rw [h, BitVec.ofInt_natCast, e2, BitVec.toNat_and, BitVec.toNat_ofNat, BitVec.toNat_ofNat]
  have e3 : 255 % 2 ^ 32 = 2 ^ 8 - 1 := by decide
  rw [e3, Nat.and_two_pow_sub_one_eq_mod, IntKind.wrap_u32]
  omega
/-- All bounds that a walk wants. -/
structure ICle (x : IC) : Prop where
  op : x.op < 65536
  a : x.a < 4294967296
  b : x.b < 4294967296
  n : x.n < 18446744073709551616
  bk : x.bk < 256
  bv : x.bv < 256
  bt : x.bt < 4294967296
  ln : x.ln ≤ 1000000000000000
  tn : x.tn ≤ 1000000000000000
  bn : x.bn ≤ 1000000000000000
  en : x.en ≤ 1000000000000000
end Go.Proofs.YtfmblalbcodpmaaDoor
namespace Go.Proofs.YtfmblalbcodpmaaDoor
open Go.RowKit
/-- An instruction without what is in it. -/
structure Ins where
  op : Nat
  a : Nat
  b : Nat
  n : Nat
  v : Nat → UInt8
  L : List Nat
  T : List Nat
  bk : Nat
  bv : Nat
  bt : Nat
/-- Instructions, one behind the other, each with its Body and its Else. -/
inductive Fo where
  | nil : Fo
  | cons (x : Ins) (body els rest : Fo) : Fo
namespace Fo
def len : Fo → Nat
  | nil => 0
  | cons _ _ _ r => r.len + 1
def count : Fo → Nat
  | nil => 0
  | cons _ b e r => 1 + b.count + e.count + r.count
end Fo
/-- An instruction's cells are those of one that is known. -/
structure ICof (i : IC) (x : Ins) : Prop where
  op : i.op = x.op
  a : i.a = x.a
  b : i.b = x.b
  n : i.n = x.n
  v : i.v = x.v
  bk : i.bk = x.bk
  bv : i.bv = x.bv
  bt : i.bt = x.bt
def CellsAt (w : World) (b o : Nat) (cs : Array Value) : Prop := ∀ j, j < cs.size → w.cell? ⟨b, o + j, none⟩ = cs[j]?
/-- Instructions lie in a row, from a place on. -/
def FoAt (w : World) (b : Nat) : Nat → Fo → Prop
  | _, .nil => True
  | o, .cons x bd el r => (∃ i : IC, ICof i x ∧ ICle i ∧ CellsAt w b o i.arr ∧ InsC w i x.L x.T ∧
      (i.bn = bd.len ∧ i.bn ≤ i.bc ∧ i.bc ≤ maxLen ∧ (0 < bd.len → ∃ b' o', i.bA = some ⟨b', o', none⟩ ∧ FoAt w b' o' bd)) ∧
      (i.en = el.len ∧ i.en ≤ i.ec ∧ i.ec ≤ maxLen ∧ (0 < el.len → ∃ b' o', i.eA = some ⟨b', o', none⟩ ∧ FoAt w b' o' el))) ∧ FoAt w b (o + 27) r
/-- A slice of instructions. -/
structure SlF (w : World) (A : Option Addr) (n c : Nat) (f : Fo) : Prop where
  len : n = f.len
  le : n ≤ c
  cm : c ≤ maxLen
  at_ : 0 < f.len → ∃ b o, A = some ⟨b, o, none⟩ ∧ FoAt w b o f
/-- One instruction, with what is in it. -/
structure InsIs (w : World) (i : IC) (x : Ins) (bd el : Fo) : Prop where
  of : ICof i x
  le : ICle i
  ins : InsC w i x.L x.T
  body : SlF w i.bA i.bn i.bc bd
  els : SlF w i.eA i.en i.ec el
theorem CellsAt.kept0 {w w' : World} {b o : Nat} {cs : Array Value} (h : CellsAt w b o cs) (hk : Kept S0 w w') : CellsAt w' b o cs := fun j hj => by
  have h1 := h j hj
  rw [Array.getElem?_eq_getElem hj] at h1 ⊢
  exact (hk.cell (p := ⟨b, o + j, none⟩) (World.block_lt_of_cell? _ _ h1) (fun x => x)).trans h1
theorem FoAt.kept0 {w w' : World} (hk : Kept S0 w w') : ∀ (f : Fo) {b o : Nat}, FoAt w b o f → FoAt w' b o f
  | .nil, _, _, _ => trivial
  | .cons x bd el r, b, o, h => by
    obtain ⟨⟨i, h1, h2, h3, h4, ⟨h5, h6, h7, h8⟩, ⟨h9, h10, h11, h12⟩⟩, hr⟩ := h
    refine ⟨⟨i, h1, h2, h3.kept0 hk, h4.kept0 hk, ⟨h5, h6, h7, fun hp => ?_⟩, ⟨h9, h10, h11, fun hp => ?_⟩⟩, FoAt.kept0 hk r hr⟩
    · obtain ⟨b', o', e, hb⟩ := h8 hp
      exact ⟨b', o', e, FoAt.kept0 hk bd hb⟩
    · obtain ⟨b', o', e, hb⟩ := h12 hp
      exact ⟨b', o', e, FoAt.kept0 hk el hb⟩
theorem SlF.kept0 {w w' : World} {A : Option Addr} {n c : Nat} {f : Fo} (h : SlF w A n c f) (hk : Kept S0 w w') : SlF w' A n c f :=
  ⟨h.len, h.le, h.cm, fun hp => let ⟨b, o, e, hb⟩ := h.at_ hp; ⟨b, o, e, hb.kept0 hk⟩⟩
theorem InsIs.kept0 {w w' : World} {i : IC} {x : Ins} {bd el : Fo} (h : InsIs w i x bd el) (hk : Kept S0 w w') : InsIs w' i x bd el :=
  ⟨h.of, h.le, h.ins.kept0 hk, h.body.kept0 hk, h.els.kept0 hk⟩
theorem FoAt.first {w : World} {b o : Nat} {x : Ins} {bd el r : Fo} (h : FoAt w b o (.cons x bd el r)) : ∃ i, CellsAt w b o i.arr ∧ InsIs w i x bd el := by
  obtain ⟨⟨i, h1, h2, h3, h4, ⟨h5, h6, h7, h8⟩, ⟨h9, h10, h11, h12⟩⟩, _⟩ := h
  exact ⟨i, h3, h1, h2, h4, ⟨h5, h6, h7, h8⟩, ⟨h9, h10, h11, h12⟩⟩
theorem FoAt.rest {w : World} {b o : Nat} {x : Ins} {bd el r : Fo} (h : FoAt w b o (.cons x bd el r)) : FoAt w b (o + 27) r := h.2
/-- What a step over each instruction comes to: the state, and whether it goes on. -/
def goF {σ : Type} (st : σ → Ins → Fo → Fo → Nat → σ × Bool) : Fo → Nat → σ → σ × Bool
  | .nil, _, s => (s, true)
  | .cons x b e r, h, s =>
    match st s x b e h with
    | (s1, false) => (s1, false)
    | (s1, true) =>
      match goF st b (if isBlk x.op then h + 1 else h) s1 with
      | (s2, false) => (s2, false)
      | (s2, true) =>
        match goF st e (if isBlk x.op then h + 1 else h) s2 with
        | (s3, false) => (s3, false)
        | (s3, true) => goF st r h s3
/-- A part of what is gone over: its slice, how far, how deep, what is left of it. -/
structure Pt where
  A : Option Addr
  n : Nat
  c : Nat
  at_ : Nat
  high : Nat
  rem : Fo
def Pt.cells (p : Pt) : List Value := [.slice p.A p.n p.c, .int .i64 (p.at_ : Int), .int .i64 (p.high : Int)]
structure Pt.Ok (w : World) (p : Pt) : Prop where
  sum : p.at_ + p.rem.len = p.n
  le : p.n ≤ p.c
  cm : p.c ≤ maxLen
  at_ : 0 < p.rem.len → ∃ b o, p.A = some ⟨b, o, none⟩ ∧ FoAt w b (o + p.at_ * 27) p.rem
/-- The parts, the uppermost first. -/
def goS {σ : Type} (st : σ → Ins → Fo → Fo → Nat → σ × Bool) : List Pt → σ → σ × Bool
  | [], s => (s, true)
  | p :: r, s => match goF st p.rem p.high s with
    | (s1, false) => (s1, false)
    | (s1, true) => goS st r s1
/-- The stack's cells: the uppermost last. -/
def ptCells (l : List Pt) : List Value := l.reverse.flatMap Pt.cells
def ptWeight : List Pt → Nat
  | [] => 0
  | p :: r => 3 * p.rem.count + 1 + ptWeight r
theorem ptCells_cons (p : Pt) (r : List Pt) : ptCells (p :: r) = ptCells r ++ p.cells := by simp [ptCells]
theorem ptCells_len : ∀ l : List Pt, (ptCells l).length = l.length * 3
  | [] => rfl
  | p :: r => by
    rw [ptCells_cons, List.length_append, ptCells_len r]
    show _ + 3 = _
    simp only [List.length_cons]
    omega
theorem goS_nil {σ : Type} (st : σ → Ins → Fo → Fo → Nat → σ × Bool) (p : Pt) (r : List Pt) (s : σ) (h : p.rem = .nil) : goS st (p :: r) s = goS st r s := by
  conv => lhs; unfold goS
  rw [h]
  rfl
/-- The parts behind a step: Body, Else, the rest. -/
def nexts (p : Pt) (i : IC) (x : Ins) (b e r : Fo) (ps : List Pt) : List Pt :=
  (if 0 < b.len then [⟨i.bA, i.bn, i.bc, 0, if isBlk x.op then p.high + 1 else p.high, b⟩] else []) ++ (if 0 < e.len then [⟨i.eA, i.en, i.ec, 0, if isBlk x.op then p.high + 1 else p.high, e⟩] else []) ++ { p with at_ := p.at_ + 1, rem := r } :: ps
theorem goF_zero {σ : Type} (st : σ → Ins → Fo → Fo → Nat → σ × Bool) (f : Fo) (h : Nat) (s : σ) (hz : ¬ 0 < f.len) : goF st f h s = (s, true) := by
  cases f with
  | nil => rfl
  | cons x b e r => unfold Fo.len at hz; omega
theorem goS_step {σ : Type} (st : σ → Ins → Fo → Fo → Nat → σ × Bool) (p : Pt) (i : IC) (x : Ins) (b e r : Fo) (ps : List Pt) (s : σ) (h : p.rem = .cons x b e r) :
    goS st (p :: ps) s = if (st s x b e p.high).2 then goS st (nexts p i x b e r ps) (st s x b e p.high).1 else ((st s x b e p.high).1, false) := by
  have e1 : ∀ (f : Fo) (A : Option Addr) (n c h : Nat) (l : List Pt) (s : σ), goS st ((if 0 < f.len then [⟨A, n, c, 0, h, f⟩] else []) ++ l) s = match goF st f h s with | (s1, false) => (s1, false) | (s1, true) => goS st l s1 := fun f A n c h l s => by
    by_cases hp : 0 < f.len
    · rw [if_pos hp]; rfl
    · rw [if_neg hp, goF_zero st f h s hp]; rfl
  unfold nexts
  rw [List.append_assoc, e1]
  have e2 := e1 e i.eA i.en i.ec (if isBlk x.op then p.high + 1 else p.high) ({ p with at_ := p.at_ + 1, rem := r } :: ps)
  simp only [e2]
  conv => lhs; unfold goS
  rw [h, goF]
  cases hst : st s x b e p.high with
  | mk s1 ok =>
    cases ok with
    | false => simp
    | true =>
      simp only [if_true]
      cases hb : goF st b (if isBlk x.op then p.high + 1 else p.high) s1 with
      | mk s2 ok2 =>
        cases ok2 with
        | false => simp
        | true =>
          simp only
          cases he : goF st e (if isBlk x.op then p.high + 1 else p.high) s2 with
          | mk s3 ok3 =>
            cases ok3 with
            | false => simp
            | true => simp only; rfl
theorem ptWeight_step (p : Pt) (i : IC) (x : Ins) (b e r : Fo) (ps : List Pt) (h : p.rem = .cons x b e r) : ptWeight (nexts p i x b e r ps) < ptWeight (p :: ps) := by
  unfold nexts
  have e1 : ∀ (f : Fo) (A : Option Addr) (n c h : Nat) (l : List Pt), ptWeight ((if 0 < f.len then [⟨A, n, c, 0, h, f⟩] else []) ++ l) ≤ 3 * f.count + 1 + ptWeight l := fun f A n c h l => by
    by_cases hp : 0 < f.len
    · rw [if_pos hp]; exact Nat.le_refl _
    · rw [if_neg hp]; simp
  have h1 := e1 b i.bA i.bn i.bc (if isBlk x.op then p.high + 1 else p.high) ((if 0 < e.len then [⟨i.eA, i.en, i.ec, 0, if isBlk x.op then p.high + 1 else p.high, e⟩] else []) ++ { p with at_ := p.at_ + 1, rem := r } :: ps)
  have h2 := e1 e i.eA i.en i.ec (if isBlk x.op then p.high + 1 else p.high) ({ p with at_ := p.at_ + 1, rem := r } :: ps)
  rw [List.append_assoc]
  have h3 : ptWeight (p :: ps) = 3 * (1 + b.count + e.count + r.count) + 1 + ptWeight ps := by show 3 * p.rem.count + 1 + ptWeight ps = _; rw [h]; rfl
  have h4 : ptWeight ({ p with at_ := p.at_ + 1, rem := r } :: ps) = 3 * r.count + 1 + ptWeight ps := rfl
  omega
end Go.Proofs.YtfmblalbcodpmaaDoor
namespace Go.Proofs.YtfmblalbcodpmaaDoor
open Go.RowKit
section
variable {w w' : World} {base e size n c g : Nat} {A : Option Addr} {L : List Value}
/-- Where it lies. -/
theorem OwnL.some (h : OwnL w base e size (.slice A n c) n L) (hn : 0 < n) : ∃ g, A = Option.some ⟨g, 0, none⟩ ∧ base ≤ g ∧ n ≤ c ∧ c ≤ maxLen := by
  rcases h.own with ⟨h1, h2⟩ | ⟨g, cap, fr, h1, h2, h3, h4, _⟩
  · omega
  · injection h1 with a1 _ a3
    subst a1 a3
    exact ⟨g, rfl, h2, h3, h4⟩
theorem OwnL.rowOf (h : OwnL w base e size (.slice (Option.some ⟨g, 0, none⟩) n c) n L) : ∃ fr, w.rowIs g e (c * size) fr ∧ n ≤ c ∧ (∀ i, i < n * size → fr i = ofL L i) ∧ base ≤ g ∧ c ≤ maxLen := by
  rcases h.own with ⟨h1, h2⟩ | ⟨g', cap, fr, h1, h2, h3, h4, h5, h6, _⟩
  · injection h1 with a1
    cases a1
  · injection h1 with a1 _ a3
    injection a1 with a1
    injection a1 with a1
    subst a1 a3
    exact ⟨fr, h5, h3, h6, h2, h4⟩
theorem OwnL.cell (h : OwnL w base e size (.slice (Option.some ⟨g, 0, none⟩) n c) n L) {i : Nat} {u : Value} (hi : L[i]? = Option.some u) : w.cell? ⟨g, i, none⟩ = Option.some u := by
  obtain ⟨fr, h1, h2, h3, _, _⟩ := h.rowOf
  have hil := (List.getElem?_eq_some_iff.1 hi).1
  rw [h.len] at hil
  have hle : n * size ≤ c * size := Nat.mul_le_mul_right _ h2
  rw [h1.cell (by omega), h3 i hil, ofL_get hi]
theorem OwnL.frozen (h : OwnL w base e size (.slice (Option.some ⟨g, 0, none⟩) n c) n L) (i : Nat) : w.frozen? ⟨g, i, none⟩ = false := by
  obtain ⟨fr, h1, _⟩ := h.rowOf
  exact h1.frozen i
theorem OwnL.set (h : OwnL w base e size (.slice (Option.some ⟨g, 0, none⟩) n c) n L) (j : Nat) (hj : j < n * size) (u : Value) : OwnL (w.setCell ⟨g, j, none⟩ u) base e size (.slice (Option.some ⟨g, 0, none⟩) n c) n (L.set j u) := by
  obtain ⟨fr, h1, h2, h3, h4, h5⟩ := h.rowOf
  refine ⟨by rw [List.length_set]; exact h.len, .inr ⟨g, c, _, rfl, h4, h2, h5, h1.set j u, fun i hi => ?_, fun _ _ => trivial⟩⟩
  have hl := h.len
  by_cases hij : i = j
  · subst hij
    rw [if_pos rfl]
    exact (ofL_get (by rw [List.getElem?_set_self (by omega)])).symm
  · rw [if_neg hij, h3 i hi]
    unfold ofL
    rw [List.getD_eq_getElem?_getD, List.getD_eq_getElem?_getD, List.getElem?_set_ne (by omega)]
theorem OwnL.take {m : Nat} (h : OwnL w base e size (.slice A n c) n L) (hm : m ≤ n) : OwnL w base e size (.slice A m c) m (L.take (m * size)) := by
  have hms : m * size ≤ n * size := Nat.mul_le_mul_right _ hm
  refine ⟨by rw [List.length_take, h.len]; omega, ?_⟩
  rcases h.own with ⟨h1, h2⟩ | ⟨g, cap, fr, h1, h2, h3, h4, h5, h6, _⟩
  · injection h1 with a1 _ a3
    have hm0 : m = 0 := by omega
    subst a1 a3 hm0
    exact .inl ⟨rfl, rfl⟩
  · injection h1 with a1 _ a3
    subst a1 a3
    refine .inr ⟨g, _, fr, rfl, h2, by omega, h4, h5, fun i hi => ?_, fun _ _ => trivial⟩
    rw [h6 i (by omega)]
    unfold ofL
    rw [List.getD_eq_getElem?_getD, List.getD_eq_getElem?_getD, List.getElem?_take_of_lt hi]
theorem OwnL.ge (h : OwnL w base e size (.slice (Option.some ⟨g, 0, none⟩) n c) n L) : base ≤ g := h.rowOf.elim fun _ x => x.2.2.2.1
theorem OwnL.congr {M : List Value} (h : OwnL w base e size (.slice A n c) n L) (e2 : L = M) : OwnL w base e size (.slice A n c) n M := e2 ▸ h
end
end Go.Proofs.YtfmblalbcodpmaaDoor
namespace Go.Proofs.YtfmblalbcodpmaaDoor
open Go.RowKit
theorem Tryd.infoPt : (Tryd.prog.info? 145).map (fun i => (i.zero, i.size, i.bytes)) = some (some (.agg #[.slice none 0 0, .int .i64 0, .int .i64 0]), 3, 40) := by kernel_rfl
theorem app3 (X : List Value) (a b c : Value) : (X ++ [a, b, c])[X.length]? = some a ∧ (X ++ [a, b, c])[X.length + 1]? = some b ∧ (X ++ [a, b, c])[X.length + 2]? = some c := by
  refine ⟨?_, ?_, ?_⟩ <;> rw [List.getElem?_append_right (by omega)] <;> simp
theorem app3set (X : List Value) (a b c u : Value) : (X ++ [a, b, c]).set (X.length + 1) u = X ++ [a, u, c] := by
  rw [List.set_append, if_neg (by omega), Nat.add_sub_cancel_left]
  rfl
/-- What is asked of what is done at each instruction: it answers by a step over a state, and writes but its own box. -/
structure StepOk {σ : Type} (F : FuncId) (gb : Nat) (st : σ → Ins → Fo → Fo → Nat → σ × Bool) (Has : σ → World → Prop) (w0 : World) : Prop where
  ent : ∀ args w, (callFunc F args).run Tryd.prog w = .ok (.enter F args) w
  step : ∀ (s : σ) (x : Ins) (i : IC) (bd el : Fo) (b o deep : Nat) (w : World), Has s w → CellsAt w b o i.arr → InsIs w i x bd el → Kept S0 w0 w → deep < 1000000000000 →
    Calls Tryd.prog F #[.pointer (some ⟨b, o, none⟩), .int .i64 (deep : Int), .pointer (some ⟨gb, 0, none⟩)] w fun e w' => e = .returned (.bool (st s x bd el deep).2) ∧ Has (st s x bd el deep).1 w' ∧ Kept (S1 gb) w w'
  keep : ∀ (s : σ) (S : Nat → Prop) (w w' : World), Has s w → Kept S w w' → ¬ S gb → (∀ i, S i → w0.heap.size ≤ i) → Has s w'
  lt : ∀ (s : σ) (w : World), Has s w → gb < w.heap.size
  old : w0.heap.size ≤ gb
/-- The loop's state. -/
structure EInv {σ : Type} (gb : Nat) (st : σ → Ins → Fo → Fo → Nat → σ × Bool) (Has : σ → World → Prop) (w0 w : World) (B : Nat) (tot : σ × Bool) (bound : Nat) (w' : World) (v : Value) (l : List Pt) (s : σ) : Prop where
  own : OwnL w' B 145 3 v l.length (ptCells l)
  ok : ∀ p ∈ l, p.Ok w0
  has : Has s w'
  kept : Kept (S1 gb) w w'
  old : Kept S0 w0 w'
  tot : goS st l s = tot
  wt : ptWeight l ≤ bound
  hi : ∀ p ∈ l, p.high + p.rem.count ≤ 1000000000
  wt0 : ptWeight l ≤ 3000000001
theorem pt_len_le : ∀ l : List Pt, l.length ≤ ptWeight l
  | [] => Nat.zero_le _
  | p :: r => by
    have := pt_len_le r
    simp only [List.length_cons, ptWeight]
    omega
theorem mem_opt {f : Fo} {q p : Pt} (h : p ∈ (if 0 < f.len then [q] else [])) : p = q := by
  split at h
  · exact List.mem_singleton.1 h
  · cases h
theorem EInv.step {σ : Type} {gb : Nat} {st : σ → Ins → Fo → Fo → Nat → σ × Bool} {Has : σ → World → Prop} {w0 w wr wz : World} {B bound : Nat} {tot : σ × Bool} {v v' : Value} {ps : List Pt} {s' s1 : σ} {b o pn pc pat phigh : Nat} {x : Ins} {bd el r : Fo} {i : IC}
    (hv : EInv gb st Has w0 w B tot bound wr v (⟨some ⟨b, o, none⟩, pn, pc, pat, phigh, .cons x bd el r⟩ :: ps) s') (hii : InsIs w0 i x bd el) (hfo : FoAt w0 b (o + pat * 27) (.cons x bd el r))
    (htot : goS st (nexts ⟨some ⟨b, o, none⟩, pn, pc, pat, phigh, .cons x bd el r⟩ i x bd el r ps) s1 = tot)
    (hown : OwnL wz B 145 3 v' (nexts ⟨some ⟨b, o, none⟩, pn, pc, pat, phigh, .cons x bd el r⟩ i x bd el r ps).length (ptCells (nexts ⟨some ⟨b, o, none⟩, pn, pc, pat, phigh, .cons x bd el r⟩ i x bd el r ps)))
    (hs : Has s1 wz) (hkw : Kept (S1 gb) w wz) (hold : Kept S0 w0 wz) :
    EInv gb st Has w0 w B tot (ptWeight (nexts ⟨some ⟨b, o, none⟩, pn, pc, pat, phigh, .cons x bd el r⟩ i x bd el r ps)) wz v' (nexts ⟨some ⟨b, o, none⟩, pn, pc, pat, phigh, .cons x bd el r⟩ i x bd el r ps) s1 ∧
    ptWeight (nexts ⟨some ⟨b, o, none⟩, pn, pc, pat, phigh, .cons x bd el r⟩ i x bd el r ps) < bound := by
  have hw := ptWeight_step ⟨some ⟨b, o, none⟩, pn, pc, pat, phigh, .cons x bd el r⟩ i x bd el r ps rfl
  have hwt := hv.wt
  have hwt0 := hv.wt0
  have hp := hv.ok _ (List.mem_cons_self ..)
  have hh : phigh + (1 + bd.count + el.count + r.count) ≤ 1000000000 := hv.hi _ (List.mem_cons_self ..)
  have hsum : pat + (r.len + 1) = pn := hp.sum
  have hok : ∀ (f : Fo) (A : Option Addr) (n c : Nat), SlF w0 A n c f → Pt.Ok w0 ⟨A, n, c, 0, if isBlk x.op then phigh + 1 else phigh, f⟩ := fun f A n c h => ⟨by show 0 + f.len = n; rw [Nat.zero_add]; exact h.len.symm, h.le, h.cm, fun h0 => by
    obtain ⟨b, o, e, hb⟩ := h.at_ h0
    exact ⟨b, o, e, by show FoAt w0 b (o + 0 * 27) f; rw [Nat.zero_mul, Nat.add_zero]; exact hb⟩⟩
  refine ⟨⟨hown, fun p hpm => ?_, hs, hkw, hold, htot, Nat.le_refl _, fun p hpm => ?_, by omega⟩, by omega⟩
  · unfold nexts at hpm
    rcases List.mem_append.1 hpm with h | h
    · rcases List.mem_append.1 h with h | h
      · rw [mem_opt h]; exact hok _ _ _ _ hii.body
      · rw [mem_opt h]; exact hok _ _ _ _ hii.els
    · rcases List.mem_cons.1 h with h | h
      · rw [h]
        refine ⟨by show pat + 1 + r.len = pn; omega, hp.le, hp.cm, fun _ => ⟨b, o, rfl, ?_⟩⟩
        have h9 := hfo.rest
        rw [show o + pat * 27 + 27 = o + (pat + 1) * 27 by omega] at h9
        exact h9
      · exact hv.ok p (List.mem_cons_of_mem _ h)
  · have hd : (if isBlk x.op then phigh + 1 else phigh) ≤ phigh + 1 := by split <;> omega
    unfold nexts at hpm
    rcases List.mem_append.1 hpm with h | h
    · rcases List.mem_append.1 h with h | h
      · rw [mem_opt h]; show (if isBlk x.op then phigh + 1 else phigh) + bd.count ≤ _; omega
      · rw [mem_opt h]; show (if isBlk x.op then phigh + 1 else phigh) + el.count ≤ _; omega
    · rcases List.mem_cons.1 h with h | h
      · rw [h]; show phigh + r.count ≤ _; omega
      · exact hv.hi p (List.mem_cons_of_mem _ h)
set_option maxRecDepth 100000 in
set_option maxHeartbeats 16000000 in
theorem each_any {σ : Type} (F : FuncId) (gb : Nat) (st : σ → Ins → Fo → Fo → Nat → σ × Bool) (Has : σ → World → Prop) (w0 w : World) (hst : StepOk F gb st Has w0) (A : Option Addr) (n c : Nat) (f : Fo) (s : σ)
    (hf : SlF w0 A n c f) (hcount : f.count ≤ 1000000000) (hs : Has s w) (hk : Kept S0 w0 w) :
    Calls Tryd.prog 51 #[.slice A n c, .func (.func F) #[] #[.pointer (some ⟨gb, 0, none⟩)]] w fun e w' => e = .returned (.tuple #[]) ∧ Has (goF st f 0 s).1 w' ∧ Kept (S1 gb) w w' := by
  have hent := hst.ent
  have HST := Lib.hid hst
  have hp0 : Pt.Ok w0 ⟨A, n, c, 0, 0, f⟩ := ⟨by show 0 + f.len = n; rw [Nat.zero_add]; exact hf.len.symm, hf.le, hf.cm, fun h => by
    obtain ⟨b, o, e, hb⟩ := hf.at_ h
    exact ⟨b, o, e, by rw [Nat.zero_mul, Nat.add_zero]; exact hb⟩⟩
  have hgo : goS st [⟨A, n, c, 0, 0, f⟩] s = goF st f 0 s := by
    unfold goS
    cases goF st f 0 s with
    | mk s1 ok => cases ok <;> rfl
  have hk1 : Kept S0 w (w.alloc (.cells #[.slice A n c, .int .i64 0, .int .i64 0] 145)) := (Kept.refl S0 w).alloc _
  have hgbl := hst.lt s w hs
  have hinv : EInv gb st Has w0 w w.heap.size (goF st f 0 s) (3 * f.count + 1) (w.alloc (.cells #[.slice A n c, .int .i64 0, .int .i64 0] 145)) (.slice (some ⟨w.heap.size, 0, none⟩) 1 1) [⟨A, n, c, 0, 0, f⟩] s :=
    ⟨⟨rfl, .inr ⟨w.heap.size, 1, ofL [.slice A n c, .int .i64 0, .int .i64 0], rfl, Nat.le_refl _, Nat.le_refl _, by decide, ⟨#[.slice A n c, .int .i64 0, .int .i64 0], Blk.new w _ _, rfl, fun i hi => by
      match i, hi with
      | 0, _ => rfl
      | 1, _ => rfl
      | 2, _ => rfl⟩, fun _ _ => rfl, fun _ _ => trivial⟩⟩, fun p hp => by rw [List.mem_singleton.1 hp]; exact hp0, hst.keep s S0 _ _ hs hk1 (fun x => x) (fun _ e => e.elim), hk1.of0 _, hk.then0 hk1, hgo, by simp [ptWeight], fun p hp => by rw [List.mem_singleton.1 hp]; show 0 + f.count ≤ _; omega, by simp only [ptWeight]; omega⟩
  have HI := Lib.hid hinv
  have HGL := Lib.hid hgbl
  clear hst hp0 hgo hk1 hgbl hinv hf hs hk
  go_enter Tryd.func51, Tryd.ntmps51
  go_wp2_with fail
  go_loopg [4] (3 * f.count + 1) (fun k v wr => ∃ (g m c' : Nat) (l : List Pt) (s' : σ), v = .slice (some ⟨g, 0, none⟩) m c' ∧ m = l.length ∧ EInv gb st Has w0 w w.heap.size (goF st f 0 s) k wr (.slice (some ⟨g, 0, none⟩) m c') l s')
  case atStart => exact ⟨_, _, _, _, s, rfl, rfl, HI.out⟩
  case round =>
    obtain ⟨g, m, c', l, s', rfl, hm, hinv⟩ := hrel
    have HV := Lib.hid hinv
    have HM := Lib.hid hm
    clear hinv hm HI
    cases l with
    | nil =>
      have hm0 : m = 0 := HM.out
      subst hm0
      go_wp2_with fail
      go_end0
      have ht := HV.out.tot
      have hs' := HV.out.has
      have e1 : (goF st f 0 s).1 = s' := by rw [← ht]; rfl
      exact ⟨rfl, by rw [e1]; exact hs', HV.out.kept⟩
    | cons p ps =>
      obtain ⟨q, rfl⟩ : ∃ q, m = q + 1 := ⟨ps.length, HM.out⟩
      have hq : q = ps.length := by have : q + 1 = ps.length + 1 := HM.out; omega
      have HQ := Lib.hid hq
      have hle := Nat.le_trans (pt_len_le _) HV.out.wt0
      have hq9 : q ≤ 3000000000 := by have : ps.length + 1 ≤ 3000000001 := hle; omega
      clear hq hle
      obtain ⟨pA, pn, pc, pat, phigh, prem⟩ := p
      have hcells : ptCells (⟨pA, pn, pc, pat, phigh, prem⟩ :: ps) = ptCells ps ++ [.slice pA pn pc, .int .i64 (pat : Int), .int .i64 (phigh : Int)] := ptCells_cons _ _
      have hcl := ptCells_len ps
      have hown := HV.out.own
      rw [hcells, show (⟨pA, pn, pc, pat, phigh, prem⟩ :: ps : List Pt).length = q + 1 from HM.out.symm] at hown
      have hql : (ptCells ps).length = q * 3 := by rw [hcl, HQ.out]
      have d0 : wr.cell? ⟨g, q * 3, none⟩ = some (.slice pA pn pc) := hown.cell (by rw [← hql]; exact (app3 _ _ _ _).1)
      have d1 : wr.cell? ⟨g, q * 3 + 1, none⟩ = some (.int .i64 (pat : Int)) := hown.cell (by rw [← hql]; exact (app3 _ _ _ _).2.1)
      have d2 : wr.cell? ⟨g, q * 3 + 2, none⟩ = some (.int .i64 (phigh : Int)) := hown.cell (by rw [← hql]; exact (app3 _ _ _ _).2.2)
      have HO := Lib.hid hown
      have HOK := Lib.hid (HV.out.ok _ (List.mem_cons_self ..))
      have HHI := Lib.hid (HV.out.hi _ (List.mem_cons_self ..))
      have us : IntKind.i64.wrap ((q : Int) + 1 - 1) = (q : Int) := by rw [IntWalk.i64_in _ (by omega)]; omega
      have hqi : (q : Int) < (q : Int) + 1 := by omega
      have hqn : q < q + 1 := Nat.lt_succ_self _
      have HQL := Lib.hid hql
      obtain ⟨_, _, hcap, hcm, _⟩ := hown.rowOf
      have hcap1 : q ≤ c' := by omega
      have hcap2 : (q : Int) ≤ (c' : Int) := by omega
      have hq0 : (0 : Int) ≤ (q : Int) := by omega
      clear hcells hcl hown hql
      cases prem with
      | nil =>
        have hat : pat = pn := by have := HOK.out.sum; exact this
        subst hat
        go_wp2_with fail
        go_quiet (fail)
        go_wp2_with fail
        go_roundg (ptWeight ps)
        case measure =>
          have h1 := HV.out.wt
          have h2 : ptWeight (⟨pA, pat, pc, pat, phigh, .nil⟩ :: ps) = 3 * 0 + 1 + ptWeight ps := rfl
          omega
        case rel =>
          have hk0 : Kept S0 wr (wr.drewN nq) := (Kept.refl S0 wr).drewN nq
          have hv := HV.out
          refine ⟨g, q, c', ps, s', rfl, HQ.out, ?_, fun p hp => hv.ok p (List.mem_cons_of_mem _ hp), HST.out.keep s' S0 _ _ hv.has hk0 (fun x => x) (fun _ e => e.elim), hv.kept.then0 hk0, hv.old.then0 hk0, ?_, Nat.le_refl _, fun p hp => hv.hi p (List.mem_cons_of_mem _ hp), ?_⟩
          · have h1 := (HO.out.take (m := q) (by omega)).kept0 hk0
            rw [← HQL.out, List.take_left'  rfl] at h1
            rw [← HQ.out]
            exact h1
          · rw [← goS_nil st ⟨pA, pat, pc, pat, phigh, .nil⟩ ps s' rfl]
            exact hv.tot
          · have h1 := HV.out.wt0
            have h2 : ptWeight (⟨pA, pat, pc, pat, phigh, .nil⟩ :: ps) = 3 * 0 + 1 + ptWeight ps := rfl
            omega
      | cons x bd el r =>
        have hsum := HOK.out.sum
        have hsum' : pat + (r.len + 1) = pn := hsum
        have hpm := HOK.out.cm
        have hpm' : pc ≤ maxLen := hpm
        have hple : pn ≤ pc := HOK.out.le
        have hpat1 : pat + 1 ≤ maxLen := by omega
        have hpat9 : pat + 1 ≤ 9223372036854775807 := hpat1
        obtain ⟨b, o, hpA, hfo⟩ := HOK.out.at_ (Nat.succ_pos _)
        replace hpA : pA = some ⟨b, o, none⟩ := hpA
        subst hpA
        replace hfo : FoAt w0 b (o + pat * 27) (.cons x bd el r) := hfo
        have HFO := Lib.hid hfo
        have ua : IntKind.i64.wrap ((pat : Int) + 1) = (pat : Int) + 1 := IntWalk.i64_in _ (by omega)
        have hlt1 : (pat : Int) < (pn : Int) := by omega
        have hlt2 : pat < pn := by omega
        have hlt0 : (0 : Int) ≤ (pat : Int) := by omega
        have hne1 : ¬ pat = pn := by omega
        have hne2 : ¬ (pat : Int) = (pn : Int) := by omega
        clear hsum hsum' hpm hpm' hple hpat1 hpat9 hfo
        go_wp2_with fail
        go_quiet (fail)
        have e0 : (wr.drewN nq).cell? ⟨g, q * 3, none⟩ = some (.slice (some ⟨b, o, none⟩) pn pc) := d0
        have e1 : (wr.drewN nq).cell? ⟨g, q * 3 + 1, none⟩ = some (.int .i64 (pat : Int)) := d1
        have e2 : (wr.drewN nq).cell? ⟨g, q * 3 + 2, none⟩ = some (.int .i64 (phigh : Int)) := d2
        have HK1 := Lib.hid (show Kept S0 wr (wr.drewN nq) from (Kept.refl S0 wr).drewN nq)
        clear d0 d1 d2
        generalize wr.drewN nq = w1 at *
        go_wp2_with fail
        go_quiet (fail)
        have HK2 := Lib.hid (HK1.out.then0 ((Kept.refl S0 w1).drewN nq))
        have d1 : (w1.drewN nq).cell? ⟨g, q * 3 + 1, none⟩ = some (.int .i64 (pat : Int)) := e1
        have d2 : (w1.drewN nq).cell? ⟨g, q * 3 + 2, none⟩ = some (.int .i64 (phigh : Int)) := e2
        clear e0 e1 e2
        generalize w1.drewN nq = w2 at *
        have f1 : w2.frozen? ⟨g, q * 3 + 1, none⟩ = false := (HO.out.kept0 HK2.out).frozen _
        have hgb : gb < g := Nat.lt_of_lt_of_le HGL.out HO.out.ge
        have hks : Kept (S1 g) w2 (w2.setCell ⟨g, q * 3 + 1, none⟩ (.int .i64 ((pat : Int) + 1))) := (Kept.refl (S1 g) w2).setCell (p := ⟨g, q * 3 + 1, none⟩) (.inl rfl) _
        have hos : OwnL (w2.setCell ⟨g, q * 3 + 1, none⟩ (.int .i64 ((pat : Int) + 1))) w.heap.size 145 3 (.slice (some ⟨g, 0, none⟩) (q + 1) c') (q + 1) (ptCells (⟨some ⟨b, o, none⟩, pn, pc, pat + 1, phigh, r⟩ :: ps)) := by
          have h1 := (HO.out.kept0 HK2.out).set (q * 3 + 1) (by omega) (.int .i64 ((pat : Int) + 1))
          rw [← HQL.out, app3set] at h1
          rw [ptCells_cons, ← HQL.out]
          exact h1
        have hks0 : Kept S0 w0 (w2.setCell ⟨g, q * 3 + 1, none⟩ (.int .i64 ((pat : Int) + 1))) := (HV.out.old.then0 HK2.out).trans_ hks (fun i e => .inr (by have e' : i = g := e; have := HST.out.old; omega))
        have hhas : Has s' (w2.setCell ⟨g, q * 3 + 1, none⟩ (.int .i64 ((pat : Int) + 1))) := HST.out.keep s' _ _ _ (HST.out.keep s' _ _ _ HV.out.has HK2.out (fun x => x) (fun _ e => e.elim)) hks (fun e => by have e' : gb = g := e; omega) (fun j e => by have e' : j = g := e; have := HO.out.ge; have := HST.out.old; have := HGL.out; omega)
        obtain ⟨i, hci0, hii0⟩ := HFO.out.first
        have hci := hci0.kept0 hks0
        have hii := hii0.kept0 hks0
        have HCI := Lib.hid hci0
        have HII := Lib.hid hii0
        clear hci0 hii0
        have hh := HHI.out
        have hh' : phigh + (1 + bd.count + el.count + r.count) ≤ 1000000000 := hh
        have HC := Lib.hid (HST.out.step s' x i bd el b (o + pat * 27) phigh _ hhas hci hii hks0 (by omega))
        have HKS := Lib.hid hks
        have HOS := Lib.hid hos
        have HKS0 := Lib.hid hks0
        have HHI' := Lib.hid hh'
        clear hks hos hks0 hhas hci hii hh hh'
        go_wp2_with fail
        cases hstp : st s' x bd el phigh with
        | mk s1 ok =>
          have htot := HV.out.tot
          rw [goS_step st ⟨some ⟨b, o, none⟩, pn, pc, pat, phigh, .cons x bd el r⟩ i x bd el r ps s' rfl] at htot
          rw [hstp] at HC htot
          simp only at htot
          have HTOT := Lib.hid htot
          clear htot hstp
          refine HC.out.mono ?_
          rintro e w3 ⟨rfl, hs3, hk3⟩
          have hww : Kept S0 w0 w3 := HKS0.out.trans_ hk3 (fun j e => .inr (by have e' : j = gb := e; have := HST.out.old; omega))
          have hkw : Kept (S1 gb) w w3 := ((HV.out.kept.then0 HK2.out).trans_ HKS.out (fun j e => .inr (by have e' : j = g := e; have := HO.out.ge; omega))).trans hk3
          have hso := HOS.out.kept hk3 (fun g' hg' e => by
            have e' : g' = gb := e
            have := (HOS.out.lt g' hg').1
            have := HGL.out
            omega)
          have HS3 := Lib.hid hs3
          have HW3 := Lib.hid hww
          have HKW := Lib.hid hkw
          have HSO := Lib.hid hso
          clear hs3 hk3 hww hkw hso d1 d2 f1 HC
          cases ok with
          | false =>
            simp only
            go_wp2_with fail
            refine bodyPost_ret (results_none rfl _ _ _) rfl ?_
            have h1 := HTOT.out
            simp only [Bool.false_eq_true, if_false] at h1
            exact ⟨rfl, by rw [← h1]; exact HS3.out, HKW.out⟩
          | true =>
            have h1 := HTOT.out
            simp only [if_true] at h1
            replace HTOT := Lib.hid h1
            clear h1
            have hc3 := HCI.out.kept0 HW3.out
            have HI3 := Lib.hid (HII.out.kept0 HW3.out)
            have g0 : w3.cell? ⟨b, o + pat * 27, none⟩ = some (.int .u16 (i.op : Int)) := hc3 0 (by rw [IC.size]; decide)
            have g25 : w3.cell? ⟨b, o + pat * 27 + 25, none⟩ = some (.slice i.bA i.bn i.bc) := hc3 25 (by rw [IC.size]; decide)
            have g26 : w3.cell? ⟨b, o + pat * 27 + 26, none⟩ = some (.slice i.eA i.en i.ec) := hc3 26 (by rw [IC.size]; decide)
            clear hc3
            simp only
            have HB := Lib.hid (show Calls Tryd.prog 77 #[.int .u16 (i.op : Int)] w3 (fun e w' => e = .returned (.bool (isBlk x.op)) ∧ w' = w3) from by
              have h := isblock_any i.op w3
              rw [HI3.out.of.op] at h ⊢
              exact h)
            obtain ⟨dp, hdp⟩ : ∃ dp, (if isBlk x.op then phigh + 1 else phigh) = dp := ⟨_, rfl⟩
            have HDP := Lib.hid hdp
            clear hdp
            have ud : IntKind.i64.wrap ((phigh : Int) + 1) = (phigh : Int) + 1 := IntWalk.i64_in _ (by have := HHI'.out; omega)
            go_upto_if 63 with (go_at_call 77; refine HB.out.mono ?_; rintro e w3 ⟨rfl, rfl⟩)
            go_cut [7] (fun t7 wx => t7 = .int .i64 (dp : Int) ∧ wx = w3)
            case first =>
              cases hib : isBlk x.op with
              | true =>
                have hdp := HDP.out
                rw [hib] at hdp
                simp only [if_true] at hdp
                have HDI := Lib.hid (show (phigh : Int) + 1 = (dp : Int) by omega)
                clear hdp hib
                go_wp2_with fail
                go_meet
                case rel => exact ⟨by rw [HDI.out], rfl⟩
              | false =>
                have hdp := HDP.out
                rw [hib] at hdp
                simp only [Bool.false_eq_true, if_false] at hdp
                have HDI := Lib.hid hdp
                clear hdp hib
                go_wp2_with fail
                go_meet
                case rel => exact ⟨by rw [HDI.out], rfl⟩
            case rest =>
              obtain ⟨rfl, hwc⟩ := hcut
              obtain ⟨w4, hw4⟩ : ∃ z, z = wc := ⟨_, rfl⟩
              subst hw4
              subst hwc
              clear HB
              have HLN := Lib.hid (show q + 1 ≤ 3000000001 from by omega)
              have HOS0 := Lib.hid (show w.heap.size ≤ w4.heap.size from by have := (HSO.out.lt g rfl); omega)
              go_upto_if 71 with fail
              go_cut [4] (fun t4 wx => ∃ (g4 m4 c4 : Nat), t4 = .slice (some ⟨g4, 0, none⟩) m4 c4 ∧ OwnL wx w.heap.size 145 3 (.slice (some ⟨g4, 0, none⟩) m4 c4) m4 (ptCells ((if 0 < el.len then ([⟨i.eA, i.en, i.ec, 0, dp, el⟩] : List Pt) else []) ++ (⟨some ⟨b, o, none⟩, pn, pc, pat + 1, phigh, r⟩ :: ps : List Pt))) ∧ m4 = ((if 0 < el.len then ([⟨i.eA, i.en, i.ec, 0, dp, el⟩] : List Pt) else []) ++ (⟨some ⟨b, o, none⟩, pn, pc, pat + 1, phigh, r⟩ :: ps : List Pt)).length ∧ m4 ≤ q + 2 ∧ Kept (fun k => w.heap.size ≤ k) w4 wx)
              case first =>
                by_cases hel : 0 < el.len
                · have hen : i.en = el.len := HI3.out.els.len
                  have hd1 : decide ((0 : Int) < (i.en : Int)) = true := decide_eq_true (by omega)
                  have hd2 : ((0 : Int) < (i.en : Int)) = True := eq_true (by omega)
                  have hd3 : 0 < i.en := by omega
                  have hka : Kept S0 w4 (w4.alloc (.cells #[.slice i.eA i.en i.ec, .int .i64 0, .int .i64 (dp : Int)] 145)) := (Kept.refl S0 w4).alloc _
                  have hown2 := HSO.out.kept0 hka
                  have hsrc := SlL.of_blk (size := 3) (n := 1) (Blk.new w4 145 #[.slice i.eA i.en i.ec, .int .i64 0, .int .i64 (dp : Int)]) rfl (by decide)
                  have HEL := Lib.hid hel
                  have HKA := Lib.hid hka
                  have hbs : w.heap.size ≤ (w4.alloc (.cells #[.slice i.eA i.en i.ec, .int .i64 0, .int .i64 (dp : Int)] 145)).heap.size := by have := HOS0.out; have := hka.size; omega
                  clear hen hka hel
                  go_wp2_with (at_builtin; refine wpList_push rfl _ _ 146 rfl w.heap.size 145 (.agg #[.slice none 0 0, .int .i64 0, .int .i64 0]) 3 40 Tryd.underlying146 Tryd.infoPt rfl (by decide) (.slice (some ⟨g, 0, none⟩) (q + 1) c') (q + 1) _ rfl hown2 (some ⟨w4.heap.size, 0, none⟩) 1 1 #[.slice i.eA i.en i.ec, .int .i64 0, .int .i64 (dp : Int)].toList rfl hsrc (by simp [Value.oneCell']) (by unfold maxLen; have := HLN.out; omega) (by have := HLN.out; omega) hbs ?_)
                  intro v5 w5 hu
                  obtain ⟨A5, c5, rfl, _⟩ := hu.own.out
                  obtain ⟨g5, rfl, _⟩ := hu.own.some (Nat.succ_pos _)
                  have HU := Lib.hid hu
                  clear hu hown2 hsrc
                  go_wp2_with fail
                  go_meet
                  case rel =>
                    refine ⟨g5, _, c5, rfl, ?_, ?_, by omega, HKA.out.of0 _ |>.trans_ HU.out.kept (fun j e => .inl (HU.out.low j e))⟩
                    · rw [if_pos HEL.out]
                      exact HU.out.own.congr (by simp only [List.cons_append, List.nil_append, ptCells_cons]; rfl)
                    · rw [if_pos HEL.out]
                      have := HQ.out
                      simp only [List.length_append, List.length_cons, List.length_nil]
                      omega
                · have hen : i.en = el.len := HI3.out.els.len
                  have hd1 : decide ((0 : Int) < (i.en : Int)) = false := decide_eq_false (by omega)
                  have hd2 : ((0 : Int) < (i.en : Int)) = False := eq_false (by omega)
                  have hd3 : ¬ 0 < i.en := by omega
                  have HEL := Lib.hid hel
                  clear hen hel
                  go_wp2_with fail
                  go_meet
                  case rel =>
                    refine ⟨g, q + 1, c', rfl, ?_, ?_, by omega, Kept.refl _ _⟩
                    · rw [if_neg HEL.out]
                      exact HSO.out
                    · rw [if_neg HEL.out]
                      have := HQ.out
                      simp only [List.length_append, List.length_cons, List.length_nil]
                      omega
              case rest =>
                obtain ⟨g4, m4, c4, rfl, hown4, hm4, hmq, hk4⟩ := hcut
                obtain ⟨w6, hw6⟩ : ∃ z, z = wc := ⟨_, rfl⟩
                subst hw6
                have HK4 := Lib.hid hk4
                have HO4 := Lib.hid hown4
                have HM4 := Lib.hid hm4
                have HW6 := Lib.hid (show Kept S0 w0 w6 from HW3.out.trans_ hk4 (fun j (e : w.heap.size ≤ j) => .inr (by have := HST.out.old; have := HGL.out; omega)))
                have HKW6 := Lib.hid (show Kept (S1 gb) w w6 from HKW.out.trans_ hk4 (fun j (e : w.heap.size ≤ j) => .inr e))
                have HS6 := Lib.hid (show Has s1 w6 from HST.out.keep s1 _ _ _ HS3.out hk4 (fun (e : w.heap.size ≤ gb) => by have := HGL.out; omega) (fun j (e : w.heap.size ≤ j) => by have := HST.out.old; have := HGL.out; omega))
                have g25' : w6.cell? ⟨b, o + pat * 27 + 25, none⟩ = some (.slice i.bA i.bn i.bc) := (HCI.out.kept0 HW6.out) 25 (by rw [IC.size]; decide)
                have HNX := Lib.hid (show nexts ⟨some ⟨b, o, none⟩, pn, pc, pat, phigh, .cons x bd el r⟩ i x bd el r ps = (if 0 < bd.len then ([⟨i.bA, i.bn, i.bc, 0, dp, bd⟩] : List Pt) else []) ++ ((if 0 < el.len then ([⟨i.eA, i.en, i.ec, 0, dp, el⟩] : List Pt) else []) ++ (⟨some ⟨b, o, none⟩, pn, pc, pat + 1, phigh, r⟩ :: ps : List Pt)) from by
                  unfold nexts
                  show (if 0 < bd.len then ([⟨i.bA, i.bn, i.bc, 0, if isBlk x.op then phigh + 1 else phigh, bd⟩] : List Pt) else []) ++ (if 0 < el.len then ([⟨i.eA, i.en, i.ec, 0, if isBlk x.op then phigh + 1 else phigh, el⟩] : List Pt) else []) ++ _ = _
                  rw [HDP.out, List.append_assoc])
                have hwz : w.heap.size ≤ w6.heap.size := HKW6.out.size
                have HWZ := Lib.hid hwz
                clear hk4 hown4 hm4 g0 g25 g26 HSO HW3 HKW HS3 HOS0 hwz
                generalize (if 0 < el.len then ([⟨i.eA, i.en, i.ec, 0, dp, el⟩] : List Pt) else []) ++ (⟨some ⟨b, o, none⟩, pn, pc, pat + 1, phigh, r⟩ :: ps : List Pt) = l1 at *
                by_cases hbd : 0 < bd.len
                · have hen : i.bn = bd.len := HI3.out.body.len
                  have hd1 : decide ((0 : Int) < (i.bn : Int)) = true := decide_eq_true (by omega)
                  have hd2 : ((0 : Int) < (i.bn : Int)) = True := eq_true (by omega)
                  have hd3 : 0 < i.bn := by omega
                  have hka : Kept S0 w6 (w6.alloc (.cells #[.slice i.bA i.bn i.bc, .int .i64 0, .int .i64 (dp : Int)] 145)) := (Kept.refl S0 w6).alloc _
                  have hown2 := HO4.out.kept0 hka
                  have hsrc := SlL.of_blk (size := 3) (n := 1) (Blk.new w6 145 #[.slice i.bA i.bn i.bc, .int .i64 0, .int .i64 (dp : Int)]) rfl (by decide)
                  have HBD := Lib.hid hbd
                  have HKA := Lib.hid hka
                  have hbs : w.heap.size ≤ (w6.alloc (.cells #[.slice i.bA i.bn i.bc, .int .i64 0, .int .i64 (dp : Int)] 145)).heap.size := by have := HWZ.out; have := hka.size; omega
                  clear hen hka hbd
                  go_wp2_with (at_builtin; refine wpList_push rfl _ _ 146 rfl w.heap.size 145 (.agg #[.slice none 0 0, .int .i64 0, .int .i64 0]) 3 40 Tryd.underlying146 Tryd.infoPt rfl (by decide) (.slice (some ⟨g4, 0, none⟩) m4 c4) m4 _ rfl hown2 (some ⟨w6.heap.size, 0, none⟩) 1 1 #[.slice i.bA i.bn i.bc, .int .i64 0, .int .i64 (dp : Int)].toList rfl hsrc (by simp [Value.oneCell']) (by unfold maxLen; have := HLN.out; omega) (by have := HLN.out; omega) hbs ?_)
                  intro v5 w5 hu
                  obtain ⟨A5, c5, rfl, _⟩ := hu.own.out
                  obtain ⟨g5, rfl, _⟩ := hu.own.some (Nat.succ_pos _)
                  have HU := Lib.hid hu
                  clear hu hown2 hsrc
                  go_wp2_with fail
                  have hkz : Kept (fun k => w.heap.size ≤ k) w6 w5 := (HKA.out.of0 _).trans_ HU.out.kept (fun j e => .inl (HU.out.low j e))
                  rw [if_pos HBD.out] at HNX
                  have hlen : (nexts ⟨some ⟨b, o, none⟩, pn, pc, pat, phigh, .cons x bd el r⟩ i x bd el r ps).length = m4 + 1 := by rw [HNX.out, HM4.out]; simp
                  have hfin := EInv.step (wz := w5) (v' := .slice (some ⟨g5, 0, none⟩) (m4 + 1) c5) HV.out HII.out HFO.out HTOT.out (by
                    rw [hlen, HNX.out]
                    exact HU.out.own.congr (by simp only [List.cons_append, List.nil_append, ptCells_cons]; rfl)) (HST.out.keep s1 _ _ _ HS6.out hkz (fun (e : w.heap.size ≤ gb) => by have := HGL.out; omega) (fun j (e : w.heap.size ≤ j) => by have := HST.out.old; have := HGL.out; omega)) (HKW6.out.trans_ hkz (fun j (e : w.heap.size ≤ j) => .inr e)) (HW6.out.trans_ hkz (fun j (e : w.heap.size ≤ j) => .inr (by have := HST.out.old; have := HGL.out; omega)))
                  go_roundg (ptWeight (nexts ⟨some ⟨b, o, none⟩, pn, pc, pat, phigh, .cons x bd el r⟩ i x bd el r ps))
                  case measure => exact hfin.2
                  case rel => exact ⟨g5, m4 + 1, c5, _, s1, rfl, hlen.symm, hfin.1⟩
                · have hen : i.bn = bd.len := HI3.out.body.len
                  have hd1 : decide ((0 : Int) < (i.bn : Int)) = false := decide_eq_false (by omega)
                  have hd2 : ((0 : Int) < (i.bn : Int)) = False := eq_false (by omega)
                  have hd3 : ¬ 0 < i.bn := by omega
                  have HBD := Lib.hid hbd
                  clear hen hbd
                  go_wp2_with fail
                  rw [if_neg HBD.out, List.nil_append] at HNX
                  have hlen : (nexts ⟨some ⟨b, o, none⟩, pn, pc, pat, phigh, .cons x bd el r⟩ i x bd el r ps).length = m4 := by rw [HNX.out, HM4.out]
                  have hfin := EInv.step (wz := w6) (v' := .slice (some ⟨g4, 0, none⟩) m4 c4) HV.out HII.out HFO.out HTOT.out (by rw [hlen, HNX.out]; exact HO4.out) HS6.out HKW6.out HW6.out
                  go_roundg (ptWeight (nexts ⟨some ⟨b, o, none⟩, pn, pc, pat, phigh, .cons x bd el r⟩ i x bd el r ps))
                  case measure => exact hfin.2
                  case rel => exact ⟨g4, m4, c4, _, s1, rfl, hlen.symm, hfin.1⟩
end Go.Proofs.YtfmblalbcodpmaaDoor
namespace Go.Proofs.YtfmblalbcodpmaaDoor
open Go.RowKit
set_option maxRecDepth 100000 in
set_option maxHeartbeats 16000000 in
theorem fits_a (x : IC) (L T : List Nat) (w : World) (hx : InsC w x L T) (hle : ICle x) (hsp : SpTab w) (imm bits shp : Nat) (from_ to_ : List Nat) (hi : inf x.op = some (imm, bits, shp, from_, to_)) (hk : imm = 2 ∨ imm = 4 ∨ imm = 6 ∨ imm = 7) :
    Calls Tryd.prog 53 #[.agg x.arr] w fun e w' => e = .returned (.bool (fitsI x L T imm)) ∧ Kept S0 w w' := by
  have hka : Kept S0 w (w.alloc (.cells x.arr 70)) := (Kept.refl S0 w).alloc _
  have hb1 : Blk (w.alloc (.cells x.arr 70)) w.heap.size 70 x.arr := Blk.new w _ _
  have HX := Lib.hid hx
  have HKA := Lib.hid hka
  have HSP := Lib.hid hsp
  have HO := Lib.hid (fun w' hs => of_any x.op w' hle.op hs)
  have hop := hle.op
  have HLE := Lib.hid hle
  have HI := Lib.hid hi
  have HKK := Lib.hid hk
  clear hx hka hsp hle hi hk
  unfold IC.arr at *
  obtain ⟨xop, xa, xb, xn, xv, xlA, xln, xlc, xtA, xtn, xtc, xbk, xbv, xbt, xbA, xbn, xbc, xeA, xen, xec⟩ := x
  simp only at *
  have HB1 := Lib.hid hb1
  have c0 : (w.alloc (.cells #[.int .u16 (xop : Int), .int .u32 (xa : Int), .int .u32 (xb : Int), .int .u64 (xn : Int), .int .u8 ((xv 0).toNat : Int), .int .u8 ((xv 1).toNat : Int), .int .u8 ((xv 2).toNat : Int), .int .u8 ((xv 3).toNat : Int), .int .u8 ((xv 4).toNat : Int), .int .u8 ((xv 5).toNat : Int), .int .u8 ((xv 6).toNat : Int), .int .u8 ((xv 7).toNat : Int), .int .u8 ((xv 8).toNat : Int), .int .u8 ((xv 9).toNat : Int), .int .u8 ((xv 10).toNat : Int), .int .u8 ((xv 11).toNat : Int), .int .u8 ((xv 12).toNat : Int), .int .u8 ((xv 13).toNat : Int), .int .u8 ((xv 14).toNat : Int), .int .u8 ((xv 15).toNat : Int), .slice xlA xln xlc, .slice xtA xtn xtc, .int .u8 (xbk : Int), .int .u8 (xbv : Int), .int .u32 (xbt : Int), .slice xbA xbn xbc, .slice xeA xen xec] 70)).cell? ⟨w.heap.size, 0, none⟩ = some (.int .u16 (xop : Int)) := hb1.cell 0
  clear hb1
  go_enter Tryd.func53, Tryd.ntmps53
  go_wp2_with fail
  generalize (w.alloc (.cells #[.int .u16 (xop : Int), .int .u32 (xa : Int), .int .u32 (xb : Int), .int .u64 (xn : Int), .int .u8 ((xv 0).toNat : Int), .int .u8 ((xv 1).toNat : Int), .int .u8 ((xv 2).toNat : Int), .int .u8 ((xv 3).toNat : Int), .int .u8 ((xv 4).toNat : Int), .int .u8 ((xv 5).toNat : Int), .int .u8 ((xv 6).toNat : Int), .int .u8 ((xv 7).toNat : Int), .int .u8 ((xv 8).toNat : Int), .int .u8 ((xv 9).toNat : Int), .int .u8 ((xv 10).toNat : Int), .int .u8 ((xv 11).toNat : Int), .int .u8 ((xv 12).toNat : Int), .int .u8 ((xv 13).toNat : Int), .int .u8 ((xv 14).toNat : Int), .int .u8 ((xv 15).toNat : Int), .slice xlA xln xlc, .slice xtA xtn xtc, .int .u8 (xbk : Int), .int .u8 (xbv : Int), .int .u32 (xbt : Int), .slice xbA xbn xbc, .slice xeA xen xec] 70)) = w1 at *
  have HSZ := Lib.hid (show w.heap.size < w1.heap.size from HB1.out.lt)
  generalize hg : w.heap.size = g at *
  refine (HO.out w1 (HSP.out.kept0 HKA.out)).mono ?_
  rintro e w2 ⟨hk2, ⟨hi, rfl⟩ | ⟨i, name, plain, vf, vt, hi, rfl, hinf⟩⟩
  · rw [HI.out] at hi
    cases hi
  · rw [HI.out] at hi
    obtain rfl := Option.some.inj hi
    obtain ⟨Af, cf, rfl, _⟩ := hinf.from_.out
    obtain ⟨At, ct, rfl, _⟩ := hinf.to_.out
    simp only
    have HK2 := Lib.hid (HKA.out.then0 hk2)
    have HX2 := Lib.hid (HX.out.kept0 (HKA.out.then0 hk2))
    have hb2 := hk2.blk HB1.out (fun x => x)
    have HB2 := Lib.hid hb2
    generalize from_.length = nf at *
    generalize to_.length = nt at *
    have c2 : (w2.alloc (.cells #[.int .u16 (xop : Int), .string name, .int .u8 (imm : Int), .slice Af nf cf, .slice At nt ct, .int .i64 (bits : Int), .bool plain] 129)).cell? ⟨g, 0, none⟩ = some (.int .u16 (xop : Int)) := (hb2.alloc _).cell 0
    have HGL := Lib.hid (show g < w2.heap.size from hb2.lt)
    clear hk2 c0 hinf hb2 hi HO
    have hz3 : Blk ((w2.alloc (.cells #[.int .u16 (xop : Int), .string name, .int .u8 (imm : Int), .slice Af nf cf, .slice At nt ct, .int .i64 (bits : Int), .bool plain] 129)).alloc (.cells #[.int .u16 0, .int .u32 0, .int .u32 0, .int .u64 0, .int .u8 0, .int .u8 0, .int .u8 0, .int .u8 0, .int .u8 0, .int .u8 0, .int .u8 0, .int .u8 0, .int .u8 0, .int .u8 0, .int .u8 0, .int .u8 0, .int .u8 0, .int .u8 0, .int .u8 0, .int .u8 0, .slice none 0 0, .slice none 0 0, .int .u8 0, .int .u8 0, .int .u32 0, .slice none 0 0, .slice none 0 0] 70)) (w2.heap.size + 1) 70 #[.int .u16 0, .int .u32 0, .int .u32 0, .int .u64 0, .int .u8 0, .int .u8 0, .int .u8 0, .int .u8 0, .int .u8 0, .int .u8 0, .int .u8 0, .int .u8 0, .int .u8 0, .int .u8 0, .int .u8 0, .int .u8 0, .int .u8 0, .int .u8 0, .int .u8 0, .int .u8 0, .slice none 0 0, .slice none 0 0, .int .u8 0, .int .u8 0, .int .u32 0, .slice none 0 0, .slice none 0 0] := Blk.new1 w2 _ _ _
    have hz4 := hz3
    unfold Blk at hz4
    go_upto_region 5 with (refine wpList_store_row rfl 70 _ _ rfl (w2.heap.size + 1) #[.int .u16 (xop : Int), .int .u32 0, .int .u32 0, .int .u64 0, .int .u8 0, .int .u8 0, .int .u8 0, .int .u8 0, .int .u8 0, .int .u8 0, .int .u8 0, .int .u8 0, .int .u8 0, .int .u8 0, .int .u8 0, .int .u8 0, .int .u8 0, .int .u8 0, .int .u8 0, .int .u8 0, .slice none 0 0, .slice none 0 0, .int .u8 0, .int .u8 0, .int .u32 0, .slice none 0 0, .slice none 0 0] rfl rfl 70 #[.int .u16 0, .int .u32 0, .int .u32 0, .int .u64 0, .int .u8 0, .int .u8 0, .int .u8 0, .int .u8 0, .int .u8 0, .int .u8 0, .int .u8 0, .int .u8 0, .int .u8 0, .int .u8 0, .int .u8 0, .int .u8 0, .int .u8 0, .int .u8 0, .int .u8 0, .int .u8 0, .slice none 0 0, .slice none 0 0, .int .u8 0, .int .u8 0, .int .u32 0, .slice none 0 0, .slice none 0 0] hz4 (by kernel_rfl) rfl (by kernel_rfl) ?_)
    have hw4 : ∃ w4, w4 = (((w2.alloc (.cells #[.int .u16 (xop : Int), .string name, .int .u8 (imm : Int), .slice Af nf cf, .slice At nt ct, .int .i64 (bits : Int), .bool plain] 129)).alloc (.cells #[.int .u16 0, .int .u32 0, .int .u32 0, .int .u64 0, .int .u8 0, .int .u8 0, .int .u8 0, .int .u8 0, .int .u8 0, .int .u8 0, .int .u8 0, .int .u8 0, .int .u8 0, .int .u8 0, .int .u8 0, .int .u8 0, .int .u8 0, .int .u8 0, .int .u8 0, .int .u8 0, .slice none 0 0, .slice none 0 0, .int .u8 0, .int .u8 0, .int .u32 0, .slice none 0 0, .slice none 0 0] 70)).setRow (w2.heap.size + 1) #[.int .u16 (xop : Int), .int .u32 0, .int .u32 0, .int .u64 0, .int .u8 0, .int .u8 0, .int .u8 0, .int .u8 0, .int .u8 0, .int .u8 0, .int .u8 0, .int .u8 0, .int .u8 0, .int .u8 0, .int .u8 0, .int .u8 0, .int .u8 0, .int .u8 0, .int .u8 0, .int .u8 0, .slice none 0 0, .slice none 0 0, .int .u8 0, .int .u8 0, .int .u32 0, .slice none 0 0, .slice none 0 0]) := ⟨_, rfl⟩
    obtain ⟨w4, hw4⟩ := hw4
    have hk4 : Kept S0 w2 w4 := by rw [hw4]; exact (((Kept.refl S0 w2).alloc _).alloc _).setRow (.inr (Nat.le_succ _)) _
    have hw : Blk w4 (w2.heap.size + 1) 70 #[.int .u16 (xop : Int), .int .u32 0, .int .u32 0, .int .u64 0, .int .u8 0, .int .u8 0, .int .u8 0, .int .u8 0, .int .u8 0, .int .u8 0, .int .u8 0, .int .u8 0, .int .u8 0, .int .u8 0, .int .u8 0, .int .u8 0, .int .u8 0, .int .u8 0, .int .u8 0, .int .u8 0, .slice none 0 0, .slice none 0 0, .int .u8 0, .int .u8 0, .int .u32 0, .slice none 0 0, .slice none 0 0] := by rw [hw4]; exact hz3.setRow _
    have hinfo : w4.cell? ⟨w2.heap.size, 2, none⟩ = some (.int .u8 (imm : Int)) := by
      rw [hw4]
      exact ((((Blk.new w2 129 #[.int .u16 (xop : Int), .string name, .int .u8 (imm : Int), .slice Af nf cf, .slice At nt ct, .int .i64 (bits : Int), .bool plain]).alloc _).setRowFar (by omega) _).cell 2)
    rw [← hw4]
    clear hw4 c2 hz3 hz4
    have HK4 := Lib.hid (HK2.out.then0 hk4)
    have HX4 := Lib.hid (HX2.out.kept0 hk4)
    have HB4 := Lib.hid (hk4.blk HB2.out (fun x => x))
    have HW4 := Lib.hid hw
    have HWL := Lib.hid (show w.heap.size ≤ w2.heap.size + 1 by have := HGL.out; omega)
    have HWB := Lib.hid (show g < w2.heap.size + 1 ∧ g = w.heap.size from ⟨by have := HGL.out; omega, hg.symm⟩)
    clear hk4 hw HK2 HX2 HB2 HGL
    generalize w2.heap.size = wi at *
    have x1 : w4.cell? ⟨g, 1, none⟩ = some (.int .u32 (xa : Int)) := HB4.out.cell 1
    have q1 : w4.frozen? ⟨wi + 1, 1, none⟩ = false := HW4.out.frozen 1
    have z1 := HW4.out.cell 1
    have hk := HKK.out
    have HRR := Lib.hid (show fitsI ⟨xop, xa, xb, xn, xv, xlA, xln, xlc, xtA, xtn, xtc, xbk, xbv, xbt, xbA, xbn, xbc, xeA, xen, xec⟩ L T imm = (flatP (⟨xop, xa, 0, 0, fun _ => 0, none, 0, 0, none, 0, 0, 0, 0, 0, none, 0, 0, none, 0, 0⟩ : IC) [] [] ⟨xop, xa, xb, xn, xv, xlA, xln, xlc, xtA, xtn, xtc, xbk, xbv, xbt, xbA, xbn, xbc, xeA, xen, xec⟩ L T && (0 : Nat) == xbn && (0 : Nat) == xen) from by rcases hk with rfl | rfl | rfl | rfl <;> simp [fitsI, okP, restP, wantP, wantZ])
    rcases hk with rfl | rfl | rfl | rfl
    all_goals
      go_upto_region 52 with fail
      have hwf : Blk (w4.setCell ⟨wi + 1, 1, none⟩ (.int .u32 (xa : Int))) (wi + 1) 70 #[.int .u16 (xop : Int), .int .u32 (xa : Int), .int .u32 0, .int .u64 0, .int .u8 0, .int .u8 0, .int .u8 0, .int .u8 0, .int .u8 0, .int .u8 0, .int .u8 0, .int .u8 0, .int .u8 0, .int .u8 0, .int .u8 0, .int .u8 0, .int .u8 0, .int .u8 0, .int .u8 0, .int .u8 0, .slice none 0 0, .slice none 0 0, .int .u8 0, .int .u8 0, .int .u32 0, .slice none 0 0, .slice none 0 0] := (HW4.out.set_ 1 (.int .u32 (xa : Int)))
      have hkf : Kept S0 w (w4.setCell ⟨wi + 1, 1, none⟩ (.int .u32 (xa : Int))) := (HK4.out.setCell (p := ⟨wi + 1, 1, none⟩) (.inr HWL.out) (.int .u32 (xa : Int)))
      have hk1 : Kept (S1 (wi + 1)) w4 (w4.setCell ⟨wi + 1, 1, none⟩ (.int .u32 (xa : Int))) := ((Kept.refl (S1 (wi + 1)) w4).setCell (p := ⟨wi + 1, 1, none⟩) (.inl rfl) (.int .u32 (xa : Int)))
      have hxf : Blk (w4.setCell ⟨wi + 1, 1, none⟩ (.int .u32 (xa : Int))) g 70 #[.int .u16 (xop : Int), .int .u32 (xa : Int), .int .u32 (xb : Int), .int .u64 (xn : Int), .int .u8 ((xv 0).toNat : Int), .int .u8 ((xv 1).toNat : Int), .int .u8 ((xv 2).toNat : Int), .int .u8 ((xv 3).toNat : Int), .int .u8 ((xv 4).toNat : Int), .int .u8 ((xv 5).toNat : Int), .int .u8 ((xv 6).toNat : Int), .int .u8 ((xv 7).toNat : Int), .int .u8 ((xv 8).toNat : Int), .int .u8 ((xv 9).toNat : Int), .int .u8 ((xv 10).toNat : Int), .int .u8 ((xv 11).toNat : Int), .int .u8 ((xv 12).toNat : Int), .int .u8 ((xv 13).toNat : Int), .int .u8 ((xv 14).toNat : Int), .int .u8 ((xv 15).toNat : Int), .slice xlA xln xlc, .slice xtA xtn xtc, .int .u8 (xbk : Int), .int .u8 (xbv : Int), .int .u32 (xbt : Int), .slice xbA xbn xbc, .slice xeA xen xec] := hk1.blk HB4.out (fun e => by have e' : g = wi + 1 := e; have := HWB.out.1; omega)
      have hins : InsC (w4.setCell ⟨wi + 1, 1, none⟩ (.int .u32 (xa : Int))) ⟨xop, xa, xb, xn, xv, xlA, xln, xlc, xtA, xtn, xtc, xbk, xbv, xbt, xbA, xbn, xbc, xeA, xen, xec⟩ L T := HX.out.kept0 hkf
      have HINS := Lib.hid hins
      have HXF := Lib.hid hxf
      have HWF := Lib.hid hwf
      have HKF := Lib.hid hkf
      clear hxf hwf hkf hk1 hins
      generalize hwz : (w4.setCell ⟨wi + 1, 1, none⟩ (.int .u32 (xa : Int))) = w5 at *
      clear hwz
      have HF := Lib.hid (flat_any (⟨xop, xa, 0, 0, fun _ => 0, none, 0, 0, none, 0, 0, 0, 0, 0, none, 0, 0, none, 0, 0⟩ : IC) ⟨xop, xa, xb, xn, xv, xlA, xln, xlc, xtA, xtn, xtc, xbk, xbv, xbt, xbA, xbn, xbc, xeA, xen, xec⟩ [] [] L T w5 ⟨SlL.zero _ 1, SlL.zero _ 1⟩ HINS.out ⟨Nat.zero_le _, Nat.zero_le _, HLE.out.ln, HLE.out.tn⟩)
      generalize flatP (⟨xop, xa, 0, 0, fun _ => 0, none, 0, 0, none, 0, 0, 0, 0, 0, none, 0, 0, none, 0, 0⟩ : IC) [] [] ⟨xop, xa, xb, xn, xv, xlA, xln, xlc, xtA, xtn, xtc, xbk, xbv, xbt, xbA, xbn, xbc, xeA, xen, xec⟩ L T = fb at *
      have e1 : IC.arr (⟨xop, xa, 0, 0, fun _ => 0, none, 0, 0, none, 0, 0, 0, 0, 0, none, 0, 0, none, 0, 0⟩ : IC) = #[.int .u16 (xop : Int), .int .u32 (xa : Int), .int .u32 0, .int .u64 0, .int .u8 0, .int .u8 0, .int .u8 0, .int .u8 0, .int .u8 0, .int .u8 0, .int .u8 0, .int .u8 0, .int .u8 0, .int .u8 0, .int .u8 0, .int .u8 0, .int .u8 0, .int .u8 0, .int .u8 0, .int .u8 0, .slice none 0 0, .slice none 0 0, .int .u8 0, .int .u8 0, .int .u32 0, .slice none 0 0, .slice none 0 0] := by unfold IC.arr; rfl
      rw [e1] at HF
      clear e1
      unfold IC.arr at HF
      refine wp_region_list ?_
      refine wpList_load_row rfl 70 _ rfl (wi + 1) rfl 70 #[.int .u16 (xop : Int), .int .u32 (xa : Int), .int .u32 0, .int .u64 0, .int .u8 0, .int .u8 0, .int .u8 0, .int .u8 0, .int .u8 0, .int .u8 0, .int .u8 0, .int .u8 0, .int .u8 0, .int .u8 0, .int .u8 0, .int .u8 0, .int .u8 0, .int .u8 0, .int .u8 0, .int .u8 0, .slice none 0 0, .slice none 0 0, .int .u8 0, .int .u8 0, .int .u32 0, .slice none 0 0, .slice none 0 0] (0, 0) _ HWF.out Tryd.underlying70 rfl (by kernel_rfl) ?_
      refine wpList_load_row rfl 70 _ rfl g rfl 70 #[.int .u16 (xop : Int), .int .u32 (xa : Int), .int .u32 (xb : Int), .int .u64 (xn : Int), .int .u8 ((xv 0).toNat : Int), .int .u8 ((xv 1).toNat : Int), .int .u8 ((xv 2).toNat : Int), .int .u8 ((xv 3).toNat : Int), .int .u8 ((xv 4).toNat : Int), .int .u8 ((xv 5).toNat : Int), .int .u8 ((xv 6).toNat : Int), .int .u8 ((xv 7).toNat : Int), .int .u8 ((xv 8).toNat : Int), .int .u8 ((xv 9).toNat : Int), .int .u8 ((xv 10).toNat : Int), .int .u8 ((xv 11).toNat : Int), .int .u8 ((xv 12).toNat : Int), .int .u8 ((xv 13).toNat : Int), .int .u8 ((xv 14).toNat : Int), .int .u8 ((xv 15).toNat : Int), .slice xlA xln xlc, .slice xtA xtn xtc, .int .u8 (xbk : Int), .int .u8 (xbv : Int), .int .u32 (xbt : Int), .slice xbA xbn xbc, .slice xeA xen xec] (0, 0) _ HXF.out Tryd.underlying70 rfl (by kernel_rfl) ?_
      simp only [Act.put, List.setIfInBounds_toArray, List.set_cons_zero, List.set_cons_succ]
      go_wp2_with fail
      refine HF.out.mono ?_
      rintro e w6 ⟨rfl, hk6⟩
      have y8 : w6.cell? ⟨wi + 1, 25, none⟩ = some (.slice none 0 0) := (hk6.blk HWF.out (fun x => x)).cell 25
      have y9 : w6.cell? ⟨wi + 1, 26, none⟩ = some (.slice none 0 0) := (hk6.blk HWF.out (fun x => x)).cell 26
      have x8 : w6.cell? ⟨g, 25, none⟩ = some (.slice xbA xbn xbc) := (hk6.blk HXF.out (fun x => x)).cell 25
      have x9 : w6.cell? ⟨g, 26, none⟩ = some (.slice xeA xen xec) := (hk6.blk HXF.out (fun x => x)).cell 26
      have HKZ := Lib.hid (HKF.out.then0 hk6)
      have HQ := Lib.hid (show ∀ n : Nat, ((0 : Int) == (n : Int)) = ((0 : Nat) == n) from fun n => by rw [Bool.eq_iff_iff]; simp; omega)
      clear hk6
      cases fb with
      | false =>
        go_wp2_with fail
        go_ret
        exact ⟨ret_bool (by rw [HRR.out]; rfl), HKZ.out⟩
      | true =>
        go_wp2_with fail
        all_goals
          go_ret
          exact ⟨ret_bool (by rw [HRR.out, Bool.eq_iff_iff]; first | (simp; done) | (simp; omega)), HKZ.out⟩
end Go.Proofs.YtfmblalbcodpmaaDoor
