/- The walk of the statement TabPlays. No condition. -/
import Derived.Test.YtpeekldngelkkaaTabX
import Derived.Test.YtpeekldngelkkaaTabK
namespace Go.Proofs.Ytpeekldngelkkaa
open Go.RowKit

def AGT (el mn mx : Int) (bd : Bool) : Array Value := #[.int .u8 el, .int .u32 mn, .int .u32 mx, .bool bd]
def AGV (x : V3) : Array Value := #[.int .u8 x.t, .int .u64 x.lo, .int .u64 x.hi]

/-- The four boxes. -/
structure Boxes (w : World) (b : Nat) (el1 mn1 mx1 : Int) (bd1 : Bool) (el2 mn2 mx2 : Int) (bd2 : Bool) (x y : V3) : Prop where
  b0 : Blk w b 41 #[.int .u8 el1, .int .u32 mn1, .int .u32 mx1, .bool bd1]
  b1 : Blk w (b + 1) 41 #[.int .u8 el2, .int .u32 mn2, .int .u32 mx2, .bool bd2]
  b2 : Blk w (b + 2) 43 #[.int .u8 x.t, .int .u64 x.lo, .int .u64 x.hi]
  b3 : Blk w (b + 3) 43 #[.int .u8 y.t, .int .u64 y.lo, .int .u64 y.hi]

theorem Boxes.kept0 {w w' : World} {b : Nat} {el1 mn1 mx1 el2 mn2 mx2 : Int} {bd1 bd2 : Bool} {x y : V3} (h : Boxes w b el1 mn1 mx1 bd1 el2 mn2 mx2 bd2 x y) (hk : Kept S0 w w') : Boxes w' b el1 mn1 mx1 bd1 el2 mn2 mx2 bd2 x y :=
  ⟨hk.blk h.b0 (fun x => x), hk.blk h.b1 (fun x => x), hk.blk h.b2 (fun x => x), hk.blk h.b3 (fun x => x)⟩
theorem boxes_new (w : World) (el1 mn1 mx1 el2 mn2 mx2 : Int) (bd1 bd2 : Bool) (x y : V3) : Boxes ((((w.alloc (.cells #[.int .u8 el1, .int .u32 mn1, .int .u32 mx1, .bool bd1] 41)).alloc (.cells #[.int .u8 el2, .int .u32 mn2, .int .u32 mx2, .bool bd2] 41)).alloc (.cells #[.int .u8 x.t, .int .u64 x.lo, .int .u64 x.hi] 43)).alloc (.cells #[.int .u8 y.t, .int .u64 y.lo, .int .u64 y.hi] 43)) w.heap.size el1 mn1 mx1 bd1 el2 mn2 mx2 bd2 x y :=
  ⟨(((Blk.new w _ _).alloc _).alloc _).alloc _, ((Blk.new1 w _ _ _).alloc _).alloc _, by
    have h := Blk.new ((w.alloc (.cells #[.int .u8 el1, .int .u32 mn1, .int .u32 mx1, .bool bd1] 41)).alloc (.cells #[.int .u8 el2, .int .u32 mn2, .int .u32 mx2, .bool bd2] 41)) 43 #[.int .u8 x.t, .int .u64 x.lo, .int .u64 x.hi]
    have e : ((w.alloc (.cells #[.int .u8 el1, .int .u32 mn1, .int .u32 mx1, .bool bd1] 41)).alloc (.cells #[.int .u8 el2, .int .u32 mn2, .int .u32 mx2, .bool bd2] 41)).heap.size = w.heap.size + 2 := by simp
    rw [e] at h
    exact h.alloc _, by
    have h := Blk.new (((w.alloc (.cells #[.int .u8 el1, .int .u32 mn1, .int .u32 mx1, .bool bd1] 41)).alloc (.cells #[.int .u8 el2, .int .u32 mn2, .int .u32 mx2, .bool bd2] 41)).alloc (.cells #[.int .u8 x.t, .int .u64 x.lo, .int .u64 x.hi] 43)) 43 #[.int .u8 y.t, .int .u64 y.lo, .int .u64 y.hi]
    have e : (((w.alloc (.cells #[.int .u8 el1, .int .u32 mn1, .int .u32 mx1, .bool bd1] 41)).alloc (.cells #[.int .u8 el2, .int .u32 mn2, .int .u32 mx2, .bool bd2] 41)).alloc (.cells #[.int .u8 x.t, .int .u64 x.lo, .int .u64 x.hi] 43)).heap.size = w.heap.size + 3 := by simp
    rw [e] at h
    exact h⟩


set_option maxRecDepth 100000 in
set_option maxHeartbeats 3200000 in
theorem tabPlays_bb (el1 mx1 el2 mx2 : Int) (mn1 mn2 : Nat) (bd1 bd2 : Bool) (x y : V3) (L : Option Addr) (l lc : Nat) (w : World) (h1 : mn1 ≤ 4294967295) (h2 : mn2 ≤ 4294967295) (h3 : 0 ≤ mx1) (h4 : mx1 ≤ 4294967295) (h5 : 0 ≤ mx2) (h6 : mx2 ≤ 4294967295) (hE1 : newE el1 mn1 mx1 bd1 x ≠ 0) (hE2 : newE el2 mn2 mx2 bd2 y ≠ 0) :
    Calls Try.prog 7 #[.agg #[.int .u8 el1, .int .u32 (mn1 : Int), .int .u32 mx1, .bool bd1], .agg #[.int .u8 el2, .int .u32 (mn2 : Int), .int .u32 mx2, .bool bd2], .agg #[.int .u8 x.t, .int .u64 x.lo, .int .u64 x.hi], .agg #[.int .u8 y.t, .int .u64 y.lo, .int .u64 y.hi], .slice L l lc] w fun e w' => e = .returned (.bool true) ∧ Kept S0 w w' := by
  have HB0 := Lib.hid (boxes_new w el1 mn1 mx1 el2 mn2 mx2 bd1 bd2 x y)
  have HK0 := Lib.hid ((((((Kept.refl S0 w).alloc (.cells #[.int .u8 el1, .int .u32 (mn1 : Int), .int .u32 mx1, .bool bd1] 41)).alloc (.cells #[.int .u8 el2, .int .u32 (mn2 : Int), .int .u32 mx2, .bool bd2] 41)).alloc (.cells #[.int .u8 x.t, .int .u64 x.lo, .int .u64 x.hi] 43)).alloc (.cells #[.int .u8 y.t, .int .u64 y.lo, .int .u64 y.hi] 43)))
  have r1 := beq_eq_false_iff_ne.2 hE1
  have r2 := bne_iff_ne.2 hE1
  have r3 := beq_eq_false_iff_ne.2 hE2
  have r4 := bne_iff_ne.2 hE2
  have e1 : ∀ z : Int, (z != z) = false := fun z => by simp
  have HN1 := Lib.hid (fun w => new_bad el1 mn1 mx1 bd1 x w (by omega) (by omega) h3 h4 hE1)
  have HR1 := Lib.hid (fun w => rnew_bad el1 mn1 mx1 bd1 x w (by omega) (by omega) h3 h4 hE1)
  generalize newE el1 mn1 mx1 bd1 x = E1 at *
  clear hE1
  have HN2 := Lib.hid (fun w => new_bad el2 mn2 mx2 bd2 y w (by omega) (by omega) h5 h6 hE2)
  have HR2 := Lib.hid (fun w => rnew_bad el2 mn2 mx2 bd2 y w (by omega) (by omega) h5 h6 hE2)
  generalize newE el2 mn2 mx2 bd2 y = E2 at *
  clear hE2
  have q00 := HB0.out.b0.cell 0
  have q01 := HB0.out.b0.cell 1
  have q02 := HB0.out.b0.cell 2
  have q03 := HB0.out.b0.cell 3
  have q20 := HB0.out.b2.cell 0
  have q21 := HB0.out.b2.cell 1
  have q22 := HB0.out.b2.cell 2
  go_enter Try.func7, Try.ntmps7
  go_wp2_with fail
  refine (HN1.out _).mono ?_
  rintro e w1 ⟨rfl, hk1⟩
  have HB1 := Lib.hid (HB0.out.kept0 hk1)
  have HK1 := Lib.hid (HK0.out.then0 hk1)
  clear q00 q01 q02 q03 q20 q21 q22 hk1 HB0 HK0 HN1
  have q10 := HB1.out.b1.cell 0
  have q11 := HB1.out.b1.cell 1
  have q12 := HB1.out.b1.cell 2
  have q13 := HB1.out.b1.cell 3
  have q30 := HB1.out.b3.cell 0
  have q31 := HB1.out.b3.cell 1
  have q32 := HB1.out.b3.cell 2
  go_wp2_with fail
  refine (HN2.out _).mono ?_
  rintro e w2 ⟨rfl, hk2⟩
  have HB2 := Lib.hid (HB1.out.kept0 hk2)
  have HK2 := Lib.hid (HK1.out.then0 hk2)
  clear q10 q11 q12 q13 q30 q31 q32 hk2 HB1 HK1 HN2
  have q00 := HB2.out.b0.cell 0
  have q01 := HB2.out.b0.cell 1
  have q02 := HB2.out.b0.cell 2
  have q03 := HB2.out.b0.cell 3
  have q20 := HB2.out.b2.cell 0
  have q21 := HB2.out.b2.cell 1
  have q22 := HB2.out.b2.cell 2
  go_wp2_with fail
  refine (HR1.out _).mono ?_
  rintro e w3 ⟨rfl, hk3⟩
  have HB3 := Lib.hid (HB2.out.kept0 hk3)
  have HK3 := Lib.hid (HK2.out.then0 hk3)
  clear q00 q01 q02 q03 q20 q21 q22 hk3 HB2 HK2 HR1
  have q10 := HB3.out.b1.cell 0
  have q11 := HB3.out.b1.cell 1
  have q12 := HB3.out.b1.cell 2
  have q13 := HB3.out.b1.cell 3
  have q30 := HB3.out.b3.cell 0
  have q31 := HB3.out.b3.cell 1
  have q32 := HB3.out.b3.cell 2
  go_wp2_with fail
  refine (HR2.out _).mono ?_
  rintro e w4 ⟨rfl, hk4⟩
  have HB4 := Lib.hid (HB3.out.kept0 hk4)
  have HK4 := Lib.hid (HK3.out.then0 hk4)
  clear q10 q11 q12 q13 q30 q31 q32 hk4 HB3 HK3 HR2
  go_wp2_with fail
  refine (lives_any _).mono ?_
  rintro e w5 ⟨rfl, hk5⟩
  go_wp2_with fail
  go_ret
  exact ⟨rfl, HK4.out.then0 hk5⟩

set_option maxRecDepth 100000 in
set_option maxHeartbeats 3200000 in
theorem tabPlays_bo (el1 mx1 el2 mx2 : Int) (mn1 mn2 : Nat) (bd1 bd2 : Bool) (x y : V3) (L : Option Addr) (l lc : Nat) (w : World) (h1 : mn1 ≤ 4294967295) (h2 : mn2 ≤ 4294967295) (h3 : 0 ≤ mx1) (h4 : mx1 ≤ 4294967295) (h5 : 0 ≤ mx2) (h6 : mx2 ≤ 4294967295) (hE1 : newE el1 mn1 mx1 bd1 x ≠ 0) (hE2 : newE el2 mn2 mx2 bd2 y = 0) :
    Calls Try.prog 7 #[.agg #[.int .u8 el1, .int .u32 (mn1 : Int), .int .u32 mx1, .bool bd1], .agg #[.int .u8 el2, .int .u32 (mn2 : Int), .int .u32 mx2, .bool bd2], .agg #[.int .u8 x.t, .int .u64 x.lo, .int .u64 x.hi], .agg #[.int .u8 y.t, .int .u64 y.lo, .int .u64 y.hi], .slice L l lc] w fun e w' => e = .returned (.bool true) ∧ Kept S0 w w' := by
  have HB0 := Lib.hid (boxes_new w el1 mn1 mx1 el2 mn2 mx2 bd1 bd2 x y)
  have HK0 := Lib.hid ((((((Kept.refl S0 w).alloc (.cells #[.int .u8 el1, .int .u32 (mn1 : Int), .int .u32 mx1, .bool bd1] 41)).alloc (.cells #[.int .u8 el2, .int .u32 (mn2 : Int), .int .u32 mx2, .bool bd2] 41)).alloc (.cells #[.int .u8 x.t, .int .u64 x.lo, .int .u64 x.hi] 43)).alloc (.cells #[.int .u8 y.t, .int .u64 y.lo, .int .u64 y.hi] 43)))
  have r1 := beq_eq_false_iff_ne.2 hE1
  have r2 := bne_iff_ne.2 hE1
  
  
  have e1 : ∀ z : Int, (z != z) = false := fun z => by simp
  have HN1 := Lib.hid (fun w => new_bad el1 mn1 mx1 bd1 x w (by omega) (by omega) h3 h4 hE1)
  have HR1 := Lib.hid (fun w => rnew_bad el1 mn1 mx1 bd1 x w (by omega) (by omega) h3 h4 hE1)
  generalize newE el1 mn1 mx1 bd1 x = E1 at *
  clear hE1
  obtain ⟨m2, f2, l2⟩ := new_ok el2 mn2 mx2 bd2 y hE2
  have HN2 := Lib.hid (fun w => newtab_made el2 mx2 mn2 bd2 y w (by omega) h5 h6 m2 f2)
  have HR2 := Lib.hid (fun w => rnew_made el2 mx2 mn2 bd2 y w (by omega) h5 h6 m2 f2)
  clear hE2 m2 f2 l2
  have q00 := HB0.out.b0.cell 0
  have q01 := HB0.out.b0.cell 1
  have q02 := HB0.out.b0.cell 2
  have q03 := HB0.out.b0.cell 3
  have q20 := HB0.out.b2.cell 0
  have q21 := HB0.out.b2.cell 1
  have q22 := HB0.out.b2.cell 2
  go_enter Try.func7, Try.ntmps7
  go_wp2_with fail
  refine (HN1.out _).mono ?_
  rintro e w1 ⟨rfl, hk1⟩
  have HB1 := Lib.hid (HB0.out.kept0 hk1)
  have HK1 := Lib.hid (HK0.out.then0 hk1)
  clear q00 q01 q02 q03 q20 q21 q22 hk1 HB0 HK0 HN1
  have q10 := HB1.out.b1.cell 0
  have q11 := HB1.out.b1.cell 1
  have q12 := HB1.out.b1.cell 2
  have q13 := HB1.out.b1.cell 3
  have q30 := HB1.out.b3.cell 0
  have q31 := HB1.out.b3.cell 1
  have q32 := HB1.out.b3.cell 2
  go_wp2_with fail
  refine (HN2.out _).mono ?_
  rintro e w2 ⟨tb2, lv2, rfl, ht2, hk2⟩
  have HB2 := Lib.hid (HB1.out.kept0 hk2)
  have HK2 := Lib.hid (HK1.out.then0 hk2)
  clear q10 q11 q12 q13 q30 q31 q32 hk2 HB1 HK1 HN2 ht2
  have q00 := HB2.out.b0.cell 0
  have q01 := HB2.out.b0.cell 1
  have q02 := HB2.out.b0.cell 2
  have q03 := HB2.out.b0.cell 3
  have q20 := HB2.out.b2.cell 0
  have q21 := HB2.out.b2.cell 1
  have q22 := HB2.out.b2.cell 2
  go_wp2_with fail
  refine (HR1.out _).mono ?_
  rintro e w3 ⟨rfl, hk3⟩
  have HB3 := Lib.hid (HB2.out.kept0 hk3)
  have HK3 := Lib.hid (HK2.out.then0 hk3)
  clear q00 q01 q02 q03 q20 q21 q22 hk3 HB2 HK2 HR1
  have q10 := HB3.out.b1.cell 0
  have q11 := HB3.out.b1.cell 1
  have q12 := HB3.out.b1.cell 2
  have q13 := HB3.out.b1.cell 3
  have q30 := HB3.out.b3.cell 0
  have q31 := HB3.out.b3.cell 1
  have q32 := HB3.out.b3.cell 2
  go_wp2_with fail
  refine (HR2.out _).mono ?_
  rintro e w4 ⟨tb4, lv4, rfl, ht4, hk4⟩
  have HB4 := Lib.hid (HB3.out.kept0 hk4)
  have HK4 := Lib.hid (HK3.out.then0 hk4)
  clear q10 q11 q12 q13 q30 q31 q32 hk4 HB3 HK3 HR2 ht4
  go_wp2_with fail
  refine (lives_any _).mono ?_
  rintro e w5 ⟨rfl, hk5⟩
  go_wp2_with fail
  go_ret
  exact ⟨rfl, HK4.out.then0 hk5⟩

set_option maxRecDepth 100000 in
set_option maxHeartbeats 3200000 in
theorem tabPlays_ob (el1 mx1 el2 mx2 : Int) (mn1 mn2 : Nat) (bd1 bd2 : Bool) (x y : V3) (L : Option Addr) (l lc : Nat) (w : World) (h1 : mn1 ≤ 4294967295) (h2 : mn2 ≤ 4294967295) (h3 : 0 ≤ mx1) (h4 : mx1 ≤ 4294967295) (h5 : 0 ≤ mx2) (h6 : mx2 ≤ 4294967295) (hE1 : newE el1 mn1 mx1 bd1 x = 0) (hE2 : newE el2 mn2 mx2 bd2 y ≠ 0) :
    Calls Try.prog 7 #[.agg #[.int .u8 el1, .int .u32 (mn1 : Int), .int .u32 mx1, .bool bd1], .agg #[.int .u8 el2, .int .u32 (mn2 : Int), .int .u32 mx2, .bool bd2], .agg #[.int .u8 x.t, .int .u64 x.lo, .int .u64 x.hi], .agg #[.int .u8 y.t, .int .u64 y.lo, .int .u64 y.hi], .slice L l lc] w fun e w' => e = .returned (.bool true) ∧ Kept S0 w w' := by
  have HB0 := Lib.hid (boxes_new w el1 mn1 mx1 el2 mn2 mx2 bd1 bd2 x y)
  have HK0 := Lib.hid ((((((Kept.refl S0 w).alloc (.cells #[.int .u8 el1, .int .u32 (mn1 : Int), .int .u32 mx1, .bool bd1] 41)).alloc (.cells #[.int .u8 el2, .int .u32 (mn2 : Int), .int .u32 mx2, .bool bd2] 41)).alloc (.cells #[.int .u8 x.t, .int .u64 x.lo, .int .u64 x.hi] 43)).alloc (.cells #[.int .u8 y.t, .int .u64 y.lo, .int .u64 y.hi] 43)))
  
  
  have r3 := beq_eq_false_iff_ne.2 hE2
  have r4 := bne_iff_ne.2 hE2
  have e1 : ∀ z : Int, (z != z) = false := fun z => by simp
  obtain ⟨m1, f1, l1⟩ := new_ok el1 mn1 mx1 bd1 x hE1
  have HN1 := Lib.hid (fun w => newtab_made el1 mx1 mn1 bd1 x w (by omega) h3 h4 m1 f1)
  have HR1 := Lib.hid (fun w => rnew_made el1 mx1 mn1 bd1 x w (by omega) h3 h4 m1 f1)
  clear hE1 m1 f1 l1
  have HN2 := Lib.hid (fun w => new_bad el2 mn2 mx2 bd2 y w (by omega) (by omega) h5 h6 hE2)
  have HR2 := Lib.hid (fun w => rnew_bad el2 mn2 mx2 bd2 y w (by omega) (by omega) h5 h6 hE2)
  generalize newE el2 mn2 mx2 bd2 y = E2 at *
  clear hE2
  have q00 := HB0.out.b0.cell 0
  have q01 := HB0.out.b0.cell 1
  have q02 := HB0.out.b0.cell 2
  have q03 := HB0.out.b0.cell 3
  have q20 := HB0.out.b2.cell 0
  have q21 := HB0.out.b2.cell 1
  have q22 := HB0.out.b2.cell 2
  go_enter Try.func7, Try.ntmps7
  go_wp2_with fail
  refine (HN1.out _).mono ?_
  rintro e w1 ⟨tb1, lv1, rfl, ht1, hk1⟩
  have HB1 := Lib.hid (HB0.out.kept0 hk1)
  have HK1 := Lib.hid (HK0.out.then0 hk1)
  clear q00 q01 q02 q03 q20 q21 q22 hk1 HB0 HK0 HN1 ht1
  have q10 := HB1.out.b1.cell 0
  have q11 := HB1.out.b1.cell 1
  have q12 := HB1.out.b1.cell 2
  have q13 := HB1.out.b1.cell 3
  have q30 := HB1.out.b3.cell 0
  have q31 := HB1.out.b3.cell 1
  have q32 := HB1.out.b3.cell 2
  go_wp2_with fail
  refine (HN2.out _).mono ?_
  rintro e w2 ⟨rfl, hk2⟩
  have HB2 := Lib.hid (HB1.out.kept0 hk2)
  have HK2 := Lib.hid (HK1.out.then0 hk2)
  clear q10 q11 q12 q13 q30 q31 q32 hk2 HB1 HK1 HN2
  have q00 := HB2.out.b0.cell 0
  have q01 := HB2.out.b0.cell 1
  have q02 := HB2.out.b0.cell 2
  have q03 := HB2.out.b0.cell 3
  have q20 := HB2.out.b2.cell 0
  have q21 := HB2.out.b2.cell 1
  have q22 := HB2.out.b2.cell 2
  go_wp2_with fail
  refine (HR1.out _).mono ?_
  rintro e w3 ⟨tb3, lv3, rfl, ht3, hk3⟩
  have HB3 := Lib.hid (HB2.out.kept0 hk3)
  have HK3 := Lib.hid (HK2.out.then0 hk3)
  clear q00 q01 q02 q03 q20 q21 q22 hk3 HB2 HK2 HR1 ht3
  have q10 := HB3.out.b1.cell 0
  have q11 := HB3.out.b1.cell 1
  have q12 := HB3.out.b1.cell 2
  have q13 := HB3.out.b1.cell 3
  have q30 := HB3.out.b3.cell 0
  have q31 := HB3.out.b3.cell 1
  have q32 := HB3.out.b3.cell 2
  go_wp2_with fail
  refine (HR2.out _).mono ?_
  rintro e w4 ⟨rfl, hk4⟩
  have HB4 := Lib.hid (HB3.out.kept0 hk4)
  have HK4 := Lib.hid (HK3.out.then0 hk4)
  clear q10 q11 q12 q13 q30 q31 q32 hk4 HB3 HK3 HR2
  go_wp2_with fail
  refine (lives_any _).mono ?_
  rintro e w5 ⟨rfl, hk5⟩
  go_wp2_with fail
  go_ret
  exact ⟨rfl, HK4.out.then0 hk5⟩
end Go.Proofs.Ytpeekldngelkkaa
