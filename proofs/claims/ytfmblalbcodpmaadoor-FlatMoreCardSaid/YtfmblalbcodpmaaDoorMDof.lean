/- What the proofs lean on, part 6 of Do. No condition. -/
import Derived.Test.YtfmblalbcodpmaaDoorMDoa
import Derived.Test.YtfmblalbcodpmaaDoorMDob
import Derived.Test.YtfmblalbcodpmaaDoorMDoc
import Derived.Test.YtfmblalbcodpmaaDoorMDod
import Derived.BigQuiet
namespace Go.Proofs.YtfmblalbcodpmaaDoor
open Go.RowKit
set_option maxRecDepth 100000 in
set_option maxHeartbeats 16000000 in
theorem fits_n (x : IC) (L T : List Nat) (w : World) (hx : InsC w x L T) (hle : ICle x) (hsp : SpTab w) (imm bits shp : Nat) (from_ to_ : List Nat) (hi : inf x.op = some (imm, bits, shp, from_, to_)) (hk : imm = 21 ∨ imm = 23) :
    Calls Tryd.prog 53 #[.agg x.arr] w fun e w' => e = .returned (.bool (fitsI x L T imm)) ∧ Kept S0 w w' := by
  have hka : Kept S0 w (w.alloc (.cells x.arr 70)) := (Kept.refl S0 w).alloc _
  have hb1 : Blk (w.alloc (.cells x.arr 70)) w.heap.size 70 x.arr := Blk.new w _ _
  have HX := Lib.hid hx
  have HKA := Lib.hid hka
  have HSP := Lib.hid hsp
  have HO := Lib.hid (fun w' hs => of_any x.op w' hle.op hs)
  have hop := hle.op
  have HLE := Lib.hid hle
  have HI := Lib.hid hi
  have HKK := Lib.hid hk
  clear hx hka hsp hle hi hk
  unfold IC.arr at *
  obtain ⟨xop, xa, xb, xn, xv, xlA, xln, xlc, xtA, xtn, xtc, xbk, xbv, xbt, xbA, xbn, xbc, xeA, xen, xec⟩ := x
  simp only at *
  have HB1 := Lib.hid hb1
  have c0 : (w.alloc (.cells #[.int .u16 (xop : Int), .int .u32 (xa : Int), .int .u32 (xb : Int), .int .u64 (xn : Int), .int .u8 ((xv 0).toNat : Int), .int .u8 ((xv 1).toNat : Int), .int .u8 ((xv 2).toNat : Int), .int .u8 ((xv 3).toNat : Int), .int .u8 ((xv 4).toNat : Int), .int .u8 ((xv 5).toNat : Int), .int .u8 ((xv 6).toNat : Int), .int .u8 ((xv 7).toNat : Int), .int .u8 ((xv 8).toNat : Int), .int .u8 ((xv 9).toNat : Int), .int .u8 ((xv 10).toNat : Int), .int .u8 ((xv 11).toNat : Int), .int .u8 ((xv 12).toNat : Int), .int .u8 ((xv 13).toNat : Int), .int .u8 ((xv 14).toNat : Int), .int .u8 ((xv 15).toNat : Int), .slice xlA xln xlc, .slice xtA xtn xtc, .int .u8 (xbk : Int), .int .u8 (xbv : Int), .int .u32 (xbt : Int), .slice xbA xbn xbc, .slice xeA xen xec] 70)).cell? ⟨w.heap.size, 0, none⟩ = some (.int .u16 (xop : Int)) := hb1.cell 0
  clear hb1
  go_enter Tryd.func53, Tryd.ntmps53
  go_wp2_with fail
  generalize (w.alloc (.cells #[.int .u16 (xop : Int), .int .u32 (xa : Int), .int .u32 (xb : Int), .int .u64 (xn : Int), .int .u8 ((xv 0).toNat : Int), .int .u8 ((xv 1).toNat : Int), .int .u8 ((xv 2).toNat : Int), .int .u8 ((xv 3).toNat : Int), .int .u8 ((xv 4).toNat : Int), .int .u8 ((xv 5).toNat : Int), .int .u8 ((xv 6).toNat : Int), .int .u8 ((xv 7).toNat : Int), .int .u8 ((xv 8).toNat : Int), .int .u8 ((xv 9).toNat : Int), .int .u8 ((xv 10).toNat : Int), .int .u8 ((xv 11).toNat : Int), .int .u8 ((xv 12).toNat : Int), .int .u8 ((xv 13).toNat : Int), .int .u8 ((xv 14).toNat : Int), .int .u8 ((xv 15).toNat : Int), .slice xlA xln xlc, .slice xtA xtn xtc, .int .u8 (xbk : Int), .int .u8 (xbv : Int), .int .u32 (xbt : Int), .slice xbA xbn xbc, .slice xeA xen xec] 70)) = w1 at *
  have HSZ := Lib.hid (show w.heap.size < w1.heap.size from HB1.out.lt)
  generalize hg : w.heap.size = g at *
  refine (HO.out w1 (HSP.out.kept0 HKA.out)).mono ?_
  rintro e w2 ⟨hk2, ⟨hi, rfl⟩ | ⟨i, name, plain, vf, vt, hi, rfl, hinf⟩⟩
  · rw [HI.out] at hi
    cases hi
  · rw [HI.out] at hi
    obtain rfl := Option.some.inj hi
    obtain ⟨Af, cf, rfl, _⟩ := hinf.from_.out
    obtain ⟨At, ct, rfl, _⟩ := hinf.to_.out
    simp only
    have HK2 := Lib.hid (HKA.out.then0 hk2)
    have HX2 := Lib.hid (HX.out.kept0 (HKA.out.then0 hk2))
    have hb2 := hk2.blk HB1.out (fun x => x)
    have HB2 := Lib.hid hb2
    generalize from_.length = nf at *
    generalize to_.length = nt at *
    have c2 : (w2.alloc (.cells #[.int .u16 (xop : Int), .string name, .int .u8 (imm : Int), .slice Af nf cf, .slice At nt ct, .int .i64 (bits : Int), .bool plain] 129)).cell? ⟨g, 0, none⟩ = some (.int .u16 (xop : Int)) := (hb2.alloc _).cell 0
    have HGL := Lib.hid (show g < w2.heap.size from hb2.lt)
    clear hk2 c0 hinf hb2 hi HO
    have hz3 : Blk ((w2.alloc (.cells #[.int .u16 (xop : Int), .string name, .int .u8 (imm : Int), .slice Af nf cf, .slice At nt ct, .int .i64 (bits : Int), .bool plain] 129)).alloc (.cells #[.int .u16 0, .int .u32 0, .int .u32 0, .int .u64 0, .int .u8 0, .int .u8 0, .int .u8 0, .int .u8 0, .int .u8 0, .int .u8 0, .int .u8 0, .int .u8 0, .int .u8 0, .int .u8 0, .int .u8 0, .int .u8 0, .int .u8 0, .int .u8 0, .int .u8 0, .int .u8 0, .slice none 0 0, .slice none 0 0, .int .u8 0, .int .u8 0, .int .u32 0, .slice none 0 0, .slice none 0 0] 70)) (w2.heap.size + 1) 70 #[.int .u16 0, .int .u32 0, .int .u32 0, .int .u64 0, .int .u8 0, .int .u8 0, .int .u8 0, .int .u8 0, .int .u8 0, .int .u8 0, .int .u8 0, .int .u8 0, .int .u8 0, .int .u8 0, .int .u8 0, .int .u8 0, .int .u8 0, .int .u8 0, .int .u8 0, .int .u8 0, .slice none 0 0, .slice none 0 0, .int .u8 0, .int .u8 0, .int .u32 0, .slice none 0 0, .slice none 0 0] := Blk.new1 w2 _ _ _
    have hz4 := hz3
    unfold Blk at hz4
    go_upto_region 5 with (refine wpList_store_row rfl 70 _ _ rfl (w2.heap.size + 1) #[.int .u16 (xop : Int), .int .u32 0, .int .u32 0, .int .u64 0, .int .u8 0, .int .u8 0, .int .u8 0, .int .u8 0, .int .u8 0, .int .u8 0, .int .u8 0, .int .u8 0, .int .u8 0, .int .u8 0, .int .u8 0, .int .u8 0, .int .u8 0, .int .u8 0, .int .u8 0, .int .u8 0, .slice none 0 0, .slice none 0 0, .int .u8 0, .int .u8 0, .int .u32 0, .slice none 0 0, .slice none 0 0] rfl rfl 70 #[.int .u16 0, .int .u32 0, .int .u32 0, .int .u64 0, .int .u8 0, .int .u8 0, .int .u8 0, .int .u8 0, .int .u8 0, .int .u8 0, .int .u8 0, .int .u8 0, .int .u8 0, .int .u8 0, .int .u8 0, .int .u8 0, .int .u8 0, .int .u8 0, .int .u8 0, .int .u8 0, .slice none 0 0, .slice none 0 0, .int .u8 0, .int .u8 0, .int .u32 0, .slice none 0 0, .slice none 0 0] hz4 (by kernel_rfl) rfl (by kernel_rfl) ?_)
    have hw4 : ∃ w4, w4 = (((w2.alloc (.cells #[.int .u16 (xop : Int), .string name, .int .u8 (imm : Int), .slice Af nf cf, .slice At nt ct, .int .i64 (bits : Int), .bool plain] 129)).alloc (.cells #[.int .u16 0, .int .u32 0, .int .u32 0, .int .u64 0, .int .u8 0, .int .u8 0, .int .u8 0, .int .u8 0, .int .u8 0, .int .u8 0, .int .u8 0, .int .u8 0, .int .u8 0, .int .u8 0, .int .u8 0, .int .u8 0, .int .u8 0, .int .u8 0, .int .u8 0, .int .u8 0, .slice none 0 0, .slice none 0 0, .int .u8 0, .int .u8 0, .int .u32 0, .slice none 0 0, .slice none 0 0] 70)).setRow (w2.heap.size + 1) #[.int .u16 (xop : Int), .int .u32 0, .int .u32 0, .int .u64 0, .int .u8 0, .int .u8 0, .int .u8 0, .int .u8 0, .int .u8 0, .int .u8 0, .int .u8 0, .int .u8 0, .int .u8 0, .int .u8 0, .int .u8 0, .int .u8 0, .int .u8 0, .int .u8 0, .int .u8 0, .int .u8 0, .slice none 0 0, .slice none 0 0, .int .u8 0, .int .u8 0, .int .u32 0, .slice none 0 0, .slice none 0 0]) := ⟨_, rfl⟩
    obtain ⟨w4, hw4⟩ := hw4
    have hk4 : Kept S0 w2 w4 := by rw [hw4]; exact (((Kept.refl S0 w2).alloc _).alloc _).setRow (.inr (Nat.le_succ _)) _
    have hw : Blk w4 (w2.heap.size + 1) 70 #[.int .u16 (xop : Int), .int .u32 0, .int .u32 0, .int .u64 0, .int .u8 0, .int .u8 0, .int .u8 0, .int .u8 0, .int .u8 0, .int .u8 0, .int .u8 0, .int .u8 0, .int .u8 0, .int .u8 0, .int .u8 0, .int .u8 0, .int .u8 0, .int .u8 0, .int .u8 0, .int .u8 0, .slice none 0 0, .slice none 0 0, .int .u8 0, .int .u8 0, .int .u32 0, .slice none 0 0, .slice none 0 0] := by rw [hw4]; exact hz3.setRow _
    have hinfo : w4.cell? ⟨w2.heap.size, 2, none⟩ = some (.int .u8 (imm : Int)) := by
      rw [hw4]
      exact ((((Blk.new w2 129 #[.int .u16 (xop : Int), .string name, .int .u8 (imm : Int), .slice Af nf cf, .slice At nt ct, .int .i64 (bits : Int), .bool plain]).alloc _).setRowFar (by omega) _).cell 2)
    rw [← hw4]
    clear hw4 c2 hz3 hz4
    have HK4 := Lib.hid (HK2.out.then0 hk4)
    have HX4 := Lib.hid (HX2.out.kept0 hk4)
    have HB4 := Lib.hid (hk4.blk HB2.out (fun x => x))
    have HW4 := Lib.hid hw
    have HWL := Lib.hid (show w.heap.size ≤ w2.heap.size + 1 by have := HGL.out; omega)
    have HWB := Lib.hid (show g < w2.heap.size + 1 ∧ g = w.heap.size from ⟨by have := HGL.out; omega, hg.symm⟩)
    clear hk4 hw HK2 HX2 HB2 HGL
    generalize w2.heap.size = wi at *
    have x3 : w4.cell? ⟨g, 3, none⟩ = some (.int .u64 (xn : Int)) := HB4.out.cell 3
    have q3 : w4.frozen? ⟨wi + 1, 3, none⟩ = false := HW4.out.frozen 3
    have z3 := HW4.out.cell 3
    have hk := HKK.out
    have HRR := Lib.hid (show fitsI ⟨xop, xa, xb, xn, xv, xlA, xln, xlc, xtA, xtn, xtc, xbk, xbv, xbt, xbA, xbn, xbc, xeA, xen, xec⟩ L T imm = (flatP (⟨xop, 0, 0, xn, fun _ => 0, none, 0, 0, none, 0, 0, 0, 0, 0, none, 0, 0, none, 0, 0⟩ : IC) [] [] ⟨xop, xa, xb, xn, xv, xlA, xln, xlc, xtA, xtn, xtc, xbk, xbv, xbt, xbA, xbn, xbc, xeA, xen, xec⟩ L T && (0 : Nat) == xbn && (0 : Nat) == xen) from by rcases hk with rfl | rfl <;> simp [fitsI, okP, restP, wantP, wantZ])
    rcases hk with rfl | rfl
    all_goals
      go_upto_region 52 with fail
      have hwf : Blk (w4.setCell ⟨wi + 1, 3, none⟩ (.int .u64 (xn : Int))) (wi + 1) 70 #[.int .u16 (xop : Int), .int .u32 0, .int .u32 0, .int .u64 (xn : Int), .int .u8 0, .int .u8 0, .int .u8 0, .int .u8 0, .int .u8 0, .int .u8 0, .int .u8 0, .int .u8 0, .int .u8 0, .int .u8 0, .int .u8 0, .int .u8 0, .int .u8 0, .int .u8 0, .int .u8 0, .int .u8 0, .slice none 0 0, .slice none 0 0, .int .u8 0, .int .u8 0, .int .u32 0, .slice none 0 0, .slice none 0 0] := (HW4.out.set_ 3 (.int .u64 (xn : Int)))
      have hkf : Kept S0 w (w4.setCell ⟨wi + 1, 3, none⟩ (.int .u64 (xn : Int))) := (HK4.out.setCell (p := ⟨wi + 1, 3, none⟩) (.inr HWL.out) (.int .u64 (xn : Int)))
      have hk1 : Kept (S1 (wi + 1)) w4 (w4.setCell ⟨wi + 1, 3, none⟩ (.int .u64 (xn : Int))) := ((Kept.refl (S1 (wi + 1)) w4).setCell (p := ⟨wi + 1, 3, none⟩) (.inl rfl) (.int .u64 (xn : Int)))
      have hxf : Blk (w4.setCell ⟨wi + 1, 3, none⟩ (.int .u64 (xn : Int))) g 70 #[.int .u16 (xop : Int), .int .u32 (xa : Int), .int .u32 (xb : Int), .int .u64 (xn : Int), .int .u8 ((xv 0).toNat : Int), .int .u8 ((xv 1).toNat : Int), .int .u8 ((xv 2).toNat : Int), .int .u8 ((xv 3).toNat : Int), .int .u8 ((xv 4).toNat : Int), .int .u8 ((xv 5).toNat : Int), .int .u8 ((xv 6).toNat : Int), .int .u8 ((xv 7).toNat : Int), .int .u8 ((xv 8).toNat : Int), .int .u8 ((xv 9).toNat : Int), .int .u8 ((xv 10).toNat : Int), .int .u8 ((xv 11).toNat : Int), .int .u8 ((xv 12).toNat : Int), .int .u8 ((xv 13).toNat : Int), .int .u8 ((xv 14).toNat : Int), .int .u8 ((xv 15).toNat : Int), .slice xlA xln xlc, .slice xtA xtn xtc, .int .u8 (xbk : Int), .int .u8 (xbv : Int), .int .u32 (xbt : Int), .slice xbA xbn xbc, .slice xeA xen xec] := hk1.blk HB4.out (fun e => by have e' : g = wi + 1 := e; have := HWB.out.1; omega)
      have hins : InsC (w4.setCell ⟨wi + 1, 3, none⟩ (.int .u64 (xn : Int))) ⟨xop, xa, xb, xn, xv, xlA, xln, xlc, xtA, xtn, xtc, xbk, xbv, xbt, xbA, xbn, xbc, xeA, xen, xec⟩ L T := HX.out.kept0 hkf
      have HINS := Lib.hid hins
      have HXF := Lib.hid hxf
      have HWF := Lib.hid hwf
      have HKF := Lib.hid hkf
      clear hxf hwf hkf hk1 hins
      generalize hwz : (w4.setCell ⟨wi + 1, 3, none⟩ (.int .u64 (xn : Int))) = w5 at *
      clear hwz
      have HF := Lib.hid (flat_any (⟨xop, 0, 0, xn, fun _ => 0, none, 0, 0, none, 0, 0, 0, 0, 0, none, 0, 0, none, 0, 0⟩ : IC) ⟨xop, xa, xb, xn, xv, xlA, xln, xlc, xtA, xtn, xtc, xbk, xbv, xbt, xbA, xbn, xbc, xeA, xen, xec⟩ [] [] L T w5 ⟨SlL.zero _ 1, SlL.zero _ 1⟩ HINS.out ⟨Nat.zero_le _, Nat.zero_le _, HLE.out.ln, HLE.out.tn⟩)
      generalize flatP (⟨xop, 0, 0, xn, fun _ => 0, none, 0, 0, none, 0, 0, 0, 0, 0, none, 0, 0, none, 0, 0⟩ : IC) [] [] ⟨xop, xa, xb, xn, xv, xlA, xln, xlc, xtA, xtn, xtc, xbk, xbv, xbt, xbA, xbn, xbc, xeA, xen, xec⟩ L T = fb at *
      have e1 : IC.arr (⟨xop, 0, 0, xn, fun _ => 0, none, 0, 0, none, 0, 0, 0, 0, 0, none, 0, 0, none, 0, 0⟩ : IC) = #[.int .u16 (xop : Int), .int .u32 0, .int .u32 0, .int .u64 (xn : Int), .int .u8 0, .int .u8 0, .int .u8 0, .int .u8 0, .int .u8 0, .int .u8 0, .int .u8 0, .int .u8 0, .int .u8 0, .int .u8 0, .int .u8 0, .int .u8 0, .int .u8 0, .int .u8 0, .int .u8 0, .int .u8 0, .slice none 0 0, .slice none 0 0, .int .u8 0, .int .u8 0, .int .u32 0, .slice none 0 0, .slice none 0 0] := by unfold IC.arr; rfl
      rw [e1] at HF
      clear e1
      unfold IC.arr at HF
      refine wp_region_list ?_
      refine wpList_load_row rfl 70 _ rfl (wi + 1) rfl 70 #[.int .u16 (xop : Int), .int .u32 0, .int .u32 0, .int .u64 (xn : Int), .int .u8 0, .int .u8 0, .int .u8 0, .int .u8 0, .int .u8 0, .int .u8 0, .int .u8 0, .int .u8 0, .int .u8 0, .int .u8 0, .int .u8 0, .int .u8 0, .int .u8 0, .int .u8 0, .int .u8 0, .int .u8 0, .slice none 0 0, .slice none 0 0, .int .u8 0, .int .u8 0, .int .u32 0, .slice none 0 0, .slice none 0 0] (0, 0) _ HWF.out Tryd.underlying70 rfl (by kernel_rfl) ?_
      refine wpList_load_row rfl 70 _ rfl g rfl 70 #[.int .u16 (xop : Int), .int .u32 (xa : Int), .int .u32 (xb : Int), .int .u64 (xn : Int), .int .u8 ((xv 0).toNat : Int), .int .u8 ((xv 1).toNat : Int), .int .u8 ((xv 2).toNat : Int), .int .u8 ((xv 3).toNat : Int), .int .u8 ((xv 4).toNat : Int), .int .u8 ((xv 5).toNat : Int), .int .u8 ((xv 6).toNat : Int), .int .u8 ((xv 7).toNat : Int), .int .u8 ((xv 8).toNat : Int), .int .u8 ((xv 9).toNat : Int), .int .u8 ((xv 10).toNat : Int), .int .u8 ((xv 11).toNat : Int), .int .u8 ((xv 12).toNat : Int), .int .u8 ((xv 13).toNat : Int), .int .u8 ((xv 14).toNat : Int), .int .u8 ((xv 15).toNat : Int), .slice xlA xln xlc, .slice xtA xtn xtc, .int .u8 (xbk : Int), .int .u8 (xbv : Int), .int .u32 (xbt : Int), .slice xbA xbn xbc, .slice xeA xen xec] (0, 0) _ HXF.out Tryd.underlying70 rfl (by kernel_rfl) ?_
      simp only [Act.put, List.setIfInBounds_toArray, List.set_cons_zero, List.set_cons_succ]
      go_wp2_with fail
      refine HF.out.mono ?_
      rintro e w6 ⟨rfl, hk6⟩
      have y8 : w6.cell? ⟨wi + 1, 25, none⟩ = some (.slice none 0 0) := (hk6.blk HWF.out (fun x => x)).cell 25
      have y9 : w6.cell? ⟨wi + 1, 26, none⟩ = some (.slice none 0 0) := (hk6.blk HWF.out (fun x => x)).cell 26
      have x8 : w6.cell? ⟨g, 25, none⟩ = some (.slice xbA xbn xbc) := (hk6.blk HXF.out (fun x => x)).cell 25
      have x9 : w6.cell? ⟨g, 26, none⟩ = some (.slice xeA xen xec) := (hk6.blk HXF.out (fun x => x)).cell 26
      have HKZ := Lib.hid (HKF.out.then0 hk6)
      have HQ := Lib.hid (show ∀ n : Nat, ((0 : Int) == (n : Int)) = ((0 : Nat) == n) from fun n => by rw [Bool.eq_iff_iff]; simp; omega)
      clear hk6
      cases fb with
      | false =>
        go_wp2_with fail
        go_ret
        exact ⟨ret_bool (by rw [HRR.out]; rfl), HKZ.out⟩
      | true =>
        go_wp2_with fail
        all_goals
          go_ret
          exact ⟨ret_bool (by rw [HRR.out, Bool.eq_iff_iff]; first | (simp; done) | (simp; omega)), HKZ.out⟩
set_option maxRecDepth 100000 in
set_option maxHeartbeats 16000000 in
theorem fits_m (x : IC) (L T : List Nat) (w : World) (hx : InsC w x L T) (hle : ICle x) (hsp : SpTab w) (imm bits shp : Nat) (from_ to_ : List Nat) (hi : inf x.op = some (imm, bits, shp, from_, to_)) (hk : imm = 20 ∨ imm = 22) :
    Calls Tryd.prog 53 #[.agg x.arr] w fun e w' => e = .returned (.bool (fitsI x L T imm)) ∧ Kept S0 w w' := by
  have hka : Kept S0 w (w.alloc (.cells x.arr 70)) := (Kept.refl S0 w).alloc _
  have hb1 : Blk (w.alloc (.cells x.arr 70)) w.heap.size 70 x.arr := Blk.new w _ _
  have HX := Lib.hid hx
  have HKA := Lib.hid hka
  have HSP := Lib.hid hsp
  have HO := Lib.hid (fun w' hs => of_any x.op w' hle.op hs)
  have hop := hle.op
  have HLE := Lib.hid hle
  have HI := Lib.hid hi
  have HKK := Lib.hid hk
  clear hx hka hsp hle hi hk
  unfold IC.arr at *
  obtain ⟨xop, xa, xb, xn, xv, xlA, xln, xlc, xtA, xtn, xtc, xbk, xbv, xbt, xbA, xbn, xbc, xeA, xen, xec⟩ := x
  simp only at *
  have HB1 := Lib.hid hb1
  have c0 : (w.alloc (.cells #[.int .u16 (xop : Int), .int .u32 (xa : Int), .int .u32 (xb : Int), .int .u64 (xn : Int), .int .u8 ((xv 0).toNat : Int), .int .u8 ((xv 1).toNat : Int), .int .u8 ((xv 2).toNat : Int), .int .u8 ((xv 3).toNat : Int), .int .u8 ((xv 4).toNat : Int), .int .u8 ((xv 5).toNat : Int), .int .u8 ((xv 6).toNat : Int), .int .u8 ((xv 7).toNat : Int), .int .u8 ((xv 8).toNat : Int), .int .u8 ((xv 9).toNat : Int), .int .u8 ((xv 10).toNat : Int), .int .u8 ((xv 11).toNat : Int), .int .u8 ((xv 12).toNat : Int), .int .u8 ((xv 13).toNat : Int), .int .u8 ((xv 14).toNat : Int), .int .u8 ((xv 15).toNat : Int), .slice xlA xln xlc, .slice xtA xtn xtc, .int .u8 (xbk : Int), .int .u8 (xbv : Int), .int .u32 (xbt : Int), .slice xbA xbn xbc, .slice xeA xen xec] 70)).cell? ⟨w.heap.size, 0, none⟩ = some (.int .u16 (xop : Int)) := hb1.cell 0
  clear hb1
  go_enter Tryd.func53, Tryd.ntmps53
  go_wp2_with fail
  generalize (w.alloc (.cells #[.int .u16 (xop : Int), .int .u32 (xa : Int), .int .u32 (xb : Int), .int .u64 (xn : Int), .int .u8 ((xv 0).toNat : Int), .int .u8 ((xv 1).toNat : Int), .int .u8 ((xv 2).toNat : Int), .int .u8 ((xv 3).toNat : Int), .int .u8 ((xv 4).toNat : Int), .int .u8 ((xv 5).toNat : Int), .int .u8 ((xv 6).toNat : Int), .int .u8 ((xv 7).toNat : Int), .int .u8 ((xv 8).toNat : Int), .int .u8 ((xv 9).toNat : Int), .int .u8 ((xv 10).toNat : Int), .int .u8 ((xv 11).toNat : Int), .int .u8 ((xv 12).toNat : Int), .int .u8 ((xv 13).toNat : Int), .int .u8 ((xv 14).toNat : Int), .int .u8 ((xv 15).toNat : Int), .slice xlA xln xlc, .slice xtA xtn xtc, .int .u8 (xbk : Int), .int .u8 (xbv : Int), .int .u32 (xbt : Int), .slice xbA xbn xbc, .slice xeA xen xec] 70)) = w1 at *
  have HSZ := Lib.hid (show w.heap.size < w1.heap.size from HB1.out.lt)
  generalize hg : w.heap.size = g at *
  refine (HO.out w1 (HSP.out.kept0 HKA.out)).mono ?_
  rintro e w2 ⟨hk2, ⟨hi, rfl⟩ | ⟨i, name, plain, vf, vt, hi, rfl, hinf⟩⟩
  · rw [HI.out] at hi
    cases hi
  · rw [HI.out] at hi
    obtain rfl := Option.some.inj hi
    obtain ⟨Af, cf, rfl, _⟩ := hinf.from_.out
    obtain ⟨At, ct, rfl, _⟩ := hinf.to_.out
    simp only
    have HK2 := Lib.hid (HKA.out.then0 hk2)
    have HX2 := Lib.hid (HX.out.kept0 (HKA.out.then0 hk2))
    have hb2 := hk2.blk HB1.out (fun x => x)
    have HB2 := Lib.hid hb2
    generalize from_.length = nf at *
    generalize to_.length = nt at *
    have c2 : (w2.alloc (.cells #[.int .u16 (xop : Int), .string name, .int .u8 (imm : Int), .slice Af nf cf, .slice At nt ct, .int .i64 (bits : Int), .bool plain] 129)).cell? ⟨g, 0, none⟩ = some (.int .u16 (xop : Int)) := (hb2.alloc _).cell 0
    have HGL := Lib.hid (show g < w2.heap.size from hb2.lt)
    clear hk2 c0 hinf hb2 hi HO
    have hz3 : Blk ((w2.alloc (.cells #[.int .u16 (xop : Int), .string name, .int .u8 (imm : Int), .slice Af nf cf, .slice At nt ct, .int .i64 (bits : Int), .bool plain] 129)).alloc (.cells #[.int .u16 0, .int .u32 0, .int .u32 0, .int .u64 0, .int .u8 0, .int .u8 0, .int .u8 0, .int .u8 0, .int .u8 0, .int .u8 0, .int .u8 0, .int .u8 0, .int .u8 0, .int .u8 0, .int .u8 0, .int .u8 0, .int .u8 0, .int .u8 0, .int .u8 0, .int .u8 0, .slice none 0 0, .slice none 0 0, .int .u8 0, .int .u8 0, .int .u32 0, .slice none 0 0, .slice none 0 0] 70)) (w2.heap.size + 1) 70 #[.int .u16 0, .int .u32 0, .int .u32 0, .int .u64 0, .int .u8 0, .int .u8 0, .int .u8 0, .int .u8 0, .int .u8 0, .int .u8 0, .int .u8 0, .int .u8 0, .int .u8 0, .int .u8 0, .int .u8 0, .int .u8 0, .int .u8 0, .int .u8 0, .int .u8 0, .int .u8 0, .slice none 0 0, .slice none 0 0, .int .u8 0, .int .u8 0, .int .u32 0, .slice none 0 0, .slice none 0 0] := Blk.new1 w2 _ _ _
    have hz4 := hz3
    unfold Blk at hz4
    go_upto_region 5 with (refine wpList_store_row rfl 70 _ _ rfl (w2.heap.size + 1) #[.int .u16 (xop : Int), .int .u32 0, .int .u32 0, .int .u64 0, .int .u8 0, .int .u8 0, .int .u8 0, .int .u8 0, .int .u8 0, .int .u8 0, .int .u8 0, .int .u8 0, .int .u8 0, .int .u8 0, .int .u8 0, .int .u8 0, .int .u8 0, .int .u8 0, .int .u8 0, .int .u8 0, .slice none 0 0, .slice none 0 0, .int .u8 0, .int .u8 0, .int .u32 0, .slice none 0 0, .slice none 0 0] rfl rfl 70 #[.int .u16 0, .int .u32 0, .int .u32 0, .int .u64 0, .int .u8 0, .int .u8 0, .int .u8 0, .int .u8 0, .int .u8 0, .int .u8 0, .int .u8 0, .int .u8 0, .int .u8 0, .int .u8 0, .int .u8 0, .int .u8 0, .int .u8 0, .int .u8 0, .int .u8 0, .int .u8 0, .slice none 0 0, .slice none 0 0, .int .u8 0, .int .u8 0, .int .u32 0, .slice none 0 0, .slice none 0 0] hz4 (by kernel_rfl) rfl (by kernel_rfl) ?_)
    have hw4 : ∃ w4, w4 = (((w2.alloc (.cells #[.int .u16 (xop : Int), .string name, .int .u8 (imm : Int), .slice Af nf cf, .slice At nt ct, .int .i64 (bits : Int), .bool plain] 129)).alloc (.cells #[.int .u16 0, .int .u32 0, .int .u32 0, .int .u64 0, .int .u8 0, .int .u8 0, .int .u8 0, .int .u8 0, .int .u8 0, .int .u8 0, .int .u8 0, .int .u8 0, .int .u8 0, .int .u8 0, .int .u8 0, .int .u8 0, .int .u8 0, .int .u8 0, .int .u8 0, .int .u8 0, .slice none 0 0, .slice none 0 0, .int .u8 0, .int .u8 0, .int .u32 0, .slice none 0 0, .slice none 0 0] 70)).setRow (w2.heap.size + 1) #[.int .u16 (xop : Int), .int .u32 0, .int .u32 0, .int .u64 0, .int .u8 0, .int .u8 0, .int .u8 0, .int .u8 0, .int .u8 0, .int .u8 0, .int .u8 0, .int .u8 0, .int .u8 0, .int .u8 0, .int .u8 0, .int .u8 0, .int .u8 0, .int .u8 0, .int .u8 0, .int .u8 0, .slice none 0 0, .slice none 0 0, .int .u8 0, .int .u8 0, .int .u32 0, .slice none 0 0, .slice none 0 0]) := ⟨_, rfl⟩
    obtain ⟨w4, hw4⟩ := hw4
    have hk4 : Kept S0 w2 w4 := by rw [hw4]; exact (((Kept.refl S0 w2).alloc _).alloc _).setRow (.inr (Nat.le_succ _)) _
    have hw : Blk w4 (w2.heap.size + 1) 70 #[.int .u16 (xop : Int), .int .u32 0, .int .u32 0, .int .u64 0, .int .u8 0, .int .u8 0, .int .u8 0, .int .u8 0, .int .u8 0, .int .u8 0, .int .u8 0, .int .u8 0, .int .u8 0, .int .u8 0, .int .u8 0, .int .u8 0, .int .u8 0, .int .u8 0, .int .u8 0, .int .u8 0, .slice none 0 0, .slice none 0 0, .int .u8 0, .int .u8 0, .int .u32 0, .slice none 0 0, .slice none 0 0] := by rw [hw4]; exact hz3.setRow _
    have hinfo : w4.cell? ⟨w2.heap.size, 2, none⟩ = some (.int .u8 (imm : Int)) := by
      rw [hw4]
      exact ((((Blk.new w2 129 #[.int .u16 (xop : Int), .string name, .int .u8 (imm : Int), .slice Af nf cf, .slice At nt ct, .int .i64 (bits : Int), .bool plain]).alloc _).setRowFar (by omega) _).cell 2)
    rw [← hw4]
    clear hw4 c2 hz3 hz4
    have HK4 := Lib.hid (HK2.out.then0 hk4)
    have HX4 := Lib.hid (HX2.out.kept0 hk4)
    have HB4 := Lib.hid (hk4.blk HB2.out (fun x => x))
    have HW4 := Lib.hid hw
    have HWL := Lib.hid (show w.heap.size ≤ w2.heap.size + 1 by have := HGL.out; omega)
    have HWB := Lib.hid (show g < w2.heap.size + 1 ∧ g = w.heap.size from ⟨by have := HGL.out; omega, hg.symm⟩)
    clear hk4 hw HK2 HX2 HB2 HGL
    generalize w2.heap.size = wi at *
    have x3 : w4.cell? ⟨g, 3, none⟩ = some (.int .u64 (xn : Int)) := HB4.out.cell 3
    have q3 : w4.frozen? ⟨wi + 1, 3, none⟩ = false := HW4.out.frozen 3
    have z3 := HW4.out.cell 3
    have uu := and_u64 xn
    obtain ⟨nm, hnm⟩ : ∃ nm, xn % 4294967296 = nm := ⟨_, rfl⟩
    rw [hnm] at uu
    have hk := HKK.out
    have HRR := Lib.hid (show fitsI ⟨xop, xa, xb, xn, xv, xlA, xln, xlc, xtA, xtn, xtc, xbk, xbv, xbt, xbA, xbn, xbc, xeA, xen, xec⟩ L T imm = (flatP (⟨xop, 0, 0, nm, fun _ => 0, none, 0, 0, none, 0, 0, 0, 0, 0, none, 0, 0, none, 0, 0⟩ : IC) [] [] ⟨xop, xa, xb, xn, xv, xlA, xln, xlc, xtA, xtn, xtc, xbk, xbv, xbt, xbA, xbn, xbc, xeA, xen, xec⟩ L T && (0 : Nat) == xbn && (0 : Nat) == xen) from by rcases hk with rfl | rfl <;> simp [fitsI, okP, restP, wantP, wantZ, hnm])
    clear hnm
    rcases hk with rfl | rfl
    all_goals
      go_upto_region 52 with fail
      have hwf : Blk (w4.setCell ⟨wi + 1, 3, none⟩ (.int .u64 (nm : Int))) (wi + 1) 70 #[.int .u16 (xop : Int), .int .u32 0, .int .u32 0, .int .u64 (nm : Int), .int .u8 0, .int .u8 0, .int .u8 0, .int .u8 0, .int .u8 0, .int .u8 0, .int .u8 0, .int .u8 0, .int .u8 0, .int .u8 0, .int .u8 0, .int .u8 0, .int .u8 0, .int .u8 0, .int .u8 0, .int .u8 0, .slice none 0 0, .slice none 0 0, .int .u8 0, .int .u8 0, .int .u32 0, .slice none 0 0, .slice none 0 0] := (HW4.out.set_ 3 (.int .u64 (nm : Int)))
      have hkf : Kept S0 w (w4.setCell ⟨wi + 1, 3, none⟩ (.int .u64 (nm : Int))) := (HK4.out.setCell (p := ⟨wi + 1, 3, none⟩) (.inr HWL.out) (.int .u64 (nm : Int)))
      have hk1 : Kept (S1 (wi + 1)) w4 (w4.setCell ⟨wi + 1, 3, none⟩ (.int .u64 (nm : Int))) := ((Kept.refl (S1 (wi + 1)) w4).setCell (p := ⟨wi + 1, 3, none⟩) (.inl rfl) (.int .u64 (nm : Int)))
      have hxf : Blk (w4.setCell ⟨wi + 1, 3, none⟩ (.int .u64 (nm : Int))) g 70 #[.int .u16 (xop : Int), .int .u32 (xa : Int), .int .u32 (xb : Int), .int .u64 (xn : Int), .int .u8 ((xv 0).toNat : Int), .int .u8 ((xv 1).toNat : Int), .int .u8 ((xv 2).toNat : Int), .int .u8 ((xv 3).toNat : Int), .int .u8 ((xv 4).toNat : Int), .int .u8 ((xv 5).toNat : Int), .int .u8 ((xv 6).toNat : Int), .int .u8 ((xv 7).toNat : Int), .int .u8 ((xv 8).toNat : Int), .int .u8 ((xv 9).toNat : Int), .int .u8 ((xv 10).toNat : Int), .int .u8 ((xv 11).toNat : Int), .int .u8 ((xv 12).toNat : Int), .int .u8 ((xv 13).toNat : Int), .int .u8 ((xv 14).toNat : Int), .int .u8 ((xv 15).toNat : Int), .slice xlA xln xlc, .slice xtA xtn xtc, .int .u8 (xbk : Int), .int .u8 (xbv : Int), .int .u32 (xbt : Int), .slice xbA xbn xbc, .slice xeA xen xec] := hk1.blk HB4.out (fun e => by have e' : g = wi + 1 := e; have := HWB.out.1; omega)
      have hins : InsC (w4.setCell ⟨wi + 1, 3, none⟩ (.int .u64 (nm : Int))) ⟨xop, xa, xb, xn, xv, xlA, xln, xlc, xtA, xtn, xtc, xbk, xbv, xbt, xbA, xbn, xbc, xeA, xen, xec⟩ L T := HX.out.kept0 hkf
      have HINS := Lib.hid hins
      have HXF := Lib.hid hxf
      have HWF := Lib.hid hwf
      have HKF := Lib.hid hkf
      clear hxf hwf hkf hk1 hins
      generalize hwz : (w4.setCell ⟨wi + 1, 3, none⟩ (.int .u64 (nm : Int))) = w5 at *
      clear hwz
      have HF := Lib.hid (flat_any (⟨xop, 0, 0, nm, fun _ => 0, none, 0, 0, none, 0, 0, 0, 0, 0, none, 0, 0, none, 0, 0⟩ : IC) ⟨xop, xa, xb, xn, xv, xlA, xln, xlc, xtA, xtn, xtc, xbk, xbv, xbt, xbA, xbn, xbc, xeA, xen, xec⟩ [] [] L T w5 ⟨SlL.zero _ 1, SlL.zero _ 1⟩ HINS.out ⟨Nat.zero_le _, Nat.zero_le _, HLE.out.ln, HLE.out.tn⟩)
      generalize flatP (⟨xop, 0, 0, nm, fun _ => 0, none, 0, 0, none, 0, 0, 0, 0, 0, none, 0, 0, none, 0, 0⟩ : IC) [] [] ⟨xop, xa, xb, xn, xv, xlA, xln, xlc, xtA, xtn, xtc, xbk, xbv, xbt, xbA, xbn, xbc, xeA, xen, xec⟩ L T = fb at *
      have e1 : IC.arr (⟨xop, 0, 0, nm, fun _ => 0, none, 0, 0, none, 0, 0, 0, 0, 0, none, 0, 0, none, 0, 0⟩ : IC) = #[.int .u16 (xop : Int), .int .u32 0, .int .u32 0, .int .u64 (nm : Int), .int .u8 0, .int .u8 0, .int .u8 0, .int .u8 0, .int .u8 0, .int .u8 0, .int .u8 0, .int .u8 0, .int .u8 0, .int .u8 0, .int .u8 0, .int .u8 0, .int .u8 0, .int .u8 0, .int .u8 0, .int .u8 0, .slice none 0 0, .slice none 0 0, .int .u8 0, .int .u8 0, .int .u32 0, .slice none 0 0, .slice none 0 0] := by unfold IC.arr; rfl
      rw [e1] at HF
      clear e1
      unfold IC.arr at HF
      refine wp_region_list ?_
      refine wpList_load_row rfl 70 _ rfl (wi + 1) rfl 70 #[.int .u16 (xop : Int), .int .u32 0, .int .u32 0, .int .u64 (nm : Int), .int .u8 0, .int .u8 0, .int .u8 0, .int .u8 0, .int .u8 0, .int .u8 0, .int .u8 0, .int .u8 0, .int .u8 0, .int .u8 0, .int .u8 0, .int .u8 0, .int .u8 0, .int .u8 0, .int .u8 0, .int .u8 0, .slice none 0 0, .slice none 0 0, .int .u8 0, .int .u8 0, .int .u32 0, .slice none 0 0, .slice none 0 0] (0, 0) _ HWF.out Tryd.underlying70 rfl (by kernel_rfl) ?_
      refine wpList_load_row rfl 70 _ rfl g rfl 70 #[.int .u16 (xop : Int), .int .u32 (xa : Int), .int .u32 (xb : Int), .int .u64 (xn : Int), .int .u8 ((xv 0).toNat : Int), .int .u8 ((xv 1).toNat : Int), .int .u8 ((xv 2).toNat : Int), .int .u8 ((xv 3).toNat : Int), .int .u8 ((xv 4).toNat : Int), .int .u8 ((xv 5).toNat : Int), .int .u8 ((xv 6).toNat : Int), .int .u8 ((xv 7).toNat : Int), .int .u8 ((xv 8).toNat : Int), .int .u8 ((xv 9).toNat : Int), .int .u8 ((xv 10).toNat : Int), .int .u8 ((xv 11).toNat : Int), .int .u8 ((xv 12).toNat : Int), .int .u8 ((xv 13).toNat : Int), .int .u8 ((xv 14).toNat : Int), .int .u8 ((xv 15).toNat : Int), .slice xlA xln xlc, .slice xtA xtn xtc, .int .u8 (xbk : Int), .int .u8 (xbv : Int), .int .u32 (xbt : Int), .slice xbA xbn xbc, .slice xeA xen xec] (0, 0) _ HXF.out Tryd.underlying70 rfl (by kernel_rfl) ?_
      simp only [Act.put, List.setIfInBounds_toArray, List.set_cons_zero, List.set_cons_succ]
      go_wp2_with fail
      refine HF.out.mono ?_
      rintro e w6 ⟨rfl, hk6⟩
      have y8 : w6.cell? ⟨wi + 1, 25, none⟩ = some (.slice none 0 0) := (hk6.blk HWF.out (fun x => x)).cell 25
      have y9 : w6.cell? ⟨wi + 1, 26, none⟩ = some (.slice none 0 0) := (hk6.blk HWF.out (fun x => x)).cell 26
      have x8 : w6.cell? ⟨g, 25, none⟩ = some (.slice xbA xbn xbc) := (hk6.blk HXF.out (fun x => x)).cell 25
      have x9 : w6.cell? ⟨g, 26, none⟩ = some (.slice xeA xen xec) := (hk6.blk HXF.out (fun x => x)).cell 26
      have HKZ := Lib.hid (HKF.out.then0 hk6)
      have HQ := Lib.hid (show ∀ n : Nat, ((0 : Int) == (n : Int)) = ((0 : Nat) == n) from fun n => by rw [Bool.eq_iff_iff]; simp; omega)
      clear hk6
      cases fb with
      | false =>
        go_wp2_with fail
        go_ret
        exact ⟨ret_bool (by rw [HRR.out]; rfl), HKZ.out⟩
      | true =>
        go_wp2_with fail
        all_goals
          go_ret
          exact ⟨ret_bool (by rw [HRR.out, Bool.eq_iff_iff]; first | (simp; done) | (simp; omega)), HKZ.out⟩
end Go.Proofs.YtfmblalbcodpmaaDoor
namespace Go.Proofs.YtfmblalbcodpmaaDoor
open Go.RowKit
set_option maxRecDepth 100000 in
set_option maxHeartbeats 16000000 in
theorem fits_p (x : IC) (L T : List Nat) (w : World) (hx : InsC w x L T) (hle : ICle x) (hsp : SpTab w) (imm bits shp : Nat) (from_ to_ : List Nat) (hi : inf x.op = some (imm, bits, shp, from_, to_)) (hk : imm = 16) :
    Calls Tryd.prog 53 #[.agg x.arr] w fun e w' => e = .returned (.bool (fitsI x L T imm)) ∧ Kept S0 w w' := by
  have hka : Kept S0 w (w.alloc (.cells x.arr 70)) := (Kept.refl S0 w).alloc _
  have hb1 : Blk (w.alloc (.cells x.arr 70)) w.heap.size 70 x.arr := Blk.new w _ _
  have HX := Lib.hid hx
  have HKA := Lib.hid hka
  have HSP := Lib.hid hsp
  have HO := Lib.hid (fun w' hs => of_any x.op w' hle.op hs)
  have hop := hle.op
  have HLE := Lib.hid hle
  have HI := Lib.hid hi
  have HKK := Lib.hid hk
  clear hx hka hsp hle hi hk
  unfold IC.arr at *
  obtain ⟨xop, xa, xb, xn, xv, xlA, xln, xlc, xtA, xtn, xtc, xbk, xbv, xbt, xbA, xbn, xbc, xeA, xen, xec⟩ := x
  simp only at *
  have HB1 := Lib.hid hb1
  have c0 : (w.alloc (.cells #[.int .u16 (xop : Int), .int .u32 (xa : Int), .int .u32 (xb : Int), .int .u64 (xn : Int), .int .u8 ((xv 0).toNat : Int), .int .u8 ((xv 1).toNat : Int), .int .u8 ((xv 2).toNat : Int), .int .u8 ((xv 3).toNat : Int), .int .u8 ((xv 4).toNat : Int), .int .u8 ((xv 5).toNat : Int), .int .u8 ((xv 6).toNat : Int), .int .u8 ((xv 7).toNat : Int), .int .u8 ((xv 8).toNat : Int), .int .u8 ((xv 9).toNat : Int), .int .u8 ((xv 10).toNat : Int), .int .u8 ((xv 11).toNat : Int), .int .u8 ((xv 12).toNat : Int), .int .u8 ((xv 13).toNat : Int), .int .u8 ((xv 14).toNat : Int), .int .u8 ((xv 15).toNat : Int), .slice xlA xln xlc, .slice xtA xtn xtc, .int .u8 (xbk : Int), .int .u8 (xbv : Int), .int .u32 (xbt : Int), .slice xbA xbn xbc, .slice xeA xen xec] 70)).cell? ⟨w.heap.size, 0, none⟩ = some (.int .u16 (xop : Int)) := hb1.cell 0
  clear hb1
  go_enter Tryd.func53, Tryd.ntmps53
  go_wp2_with fail
  generalize (w.alloc (.cells #[.int .u16 (xop : Int), .int .u32 (xa : Int), .int .u32 (xb : Int), .int .u64 (xn : Int), .int .u8 ((xv 0).toNat : Int), .int .u8 ((xv 1).toNat : Int), .int .u8 ((xv 2).toNat : Int), .int .u8 ((xv 3).toNat : Int), .int .u8 ((xv 4).toNat : Int), .int .u8 ((xv 5).toNat : Int), .int .u8 ((xv 6).toNat : Int), .int .u8 ((xv 7).toNat : Int), .int .u8 ((xv 8).toNat : Int), .int .u8 ((xv 9).toNat : Int), .int .u8 ((xv 10).toNat : Int), .int .u8 ((xv 11).toNat : Int), .int .u8 ((xv 12).toNat : Int), .int .u8 ((xv 13).toNat : Int), .int .u8 ((xv 14).toNat : Int), .int .u8 ((xv 15).toNat : Int), .slice xlA xln xlc, .slice xtA xtn xtc, .int .u8 (xbk : Int), .int .u8 (xbv : Int), .int .u32 (xbt : Int), .slice xbA xbn xbc, .slice xeA xen xec] 70)) = w1 at *
  have HSZ := Lib.hid (show w.heap.size < w1.heap.size from HB1.out.lt)
  generalize hg : w.heap.size = g at *
  refine (HO.out w1 (HSP.out.kept0 HKA.out)).mono ?_
  rintro e w2 ⟨hk2, ⟨hi, rfl⟩ | ⟨i, name, plain, vf, vt, hi, rfl, hinf⟩⟩
  · rw [HI.out] at hi
    cases hi
  · rw [HI.out] at hi
    obtain rfl := Option.some.inj hi
    obtain ⟨Af, cf, rfl, _⟩ := hinf.from_.out
    obtain ⟨At, ct, rfl, _⟩ := hinf.to_.out
    simp only
    have HK2 := Lib.hid (HKA.out.then0 hk2)
    have HX2 := Lib.hid (HX.out.kept0 (HKA.out.then0 hk2))
    have hb2 := hk2.blk HB1.out (fun x => x)
    have HB2 := Lib.hid hb2
    generalize from_.length = nf at *
    generalize to_.length = nt at *
    have c2 : (w2.alloc (.cells #[.int .u16 (xop : Int), .string name, .int .u8 (imm : Int), .slice Af nf cf, .slice At nt ct, .int .i64 (bits : Int), .bool plain] 129)).cell? ⟨g, 0, none⟩ = some (.int .u16 (xop : Int)) := (hb2.alloc _).cell 0
    have HGL := Lib.hid (show g < w2.heap.size from hb2.lt)
    clear hk2 c0 hinf hb2 hi HO
    have hz3 : Blk ((w2.alloc (.cells #[.int .u16 (xop : Int), .string name, .int .u8 (imm : Int), .slice Af nf cf, .slice At nt ct, .int .i64 (bits : Int), .bool plain] 129)).alloc (.cells #[.int .u16 0, .int .u32 0, .int .u32 0, .int .u64 0, .int .u8 0, .int .u8 0, .int .u8 0, .int .u8 0, .int .u8 0, .int .u8 0, .int .u8 0, .int .u8 0, .int .u8 0, .int .u8 0, .int .u8 0, .int .u8 0, .int .u8 0, .int .u8 0, .int .u8 0, .int .u8 0, .slice none 0 0, .slice none 0 0, .int .u8 0, .int .u8 0, .int .u32 0, .slice none 0 0, .slice none 0 0] 70)) (w2.heap.size + 1) 70 #[.int .u16 0, .int .u32 0, .int .u32 0, .int .u64 0, .int .u8 0, .int .u8 0, .int .u8 0, .int .u8 0, .int .u8 0, .int .u8 0, .int .u8 0, .int .u8 0, .int .u8 0, .int .u8 0, .int .u8 0, .int .u8 0, .int .u8 0, .int .u8 0, .int .u8 0, .int .u8 0, .slice none 0 0, .slice none 0 0, .int .u8 0, .int .u8 0, .int .u32 0, .slice none 0 0, .slice none 0 0] := Blk.new1 w2 _ _ _
    have hz4 := hz3
    unfold Blk at hz4
    go_upto_region 5 with (refine wpList_store_row rfl 70 _ _ rfl (w2.heap.size + 1) #[.int .u16 (xop : Int), .int .u32 0, .int .u32 0, .int .u64 0, .int .u8 0, .int .u8 0, .int .u8 0, .int .u8 0, .int .u8 0, .int .u8 0, .int .u8 0, .int .u8 0, .int .u8 0, .int .u8 0, .int .u8 0, .int .u8 0, .int .u8 0, .int .u8 0, .int .u8 0, .int .u8 0, .slice none 0 0, .slice none 0 0, .int .u8 0, .int .u8 0, .int .u32 0, .slice none 0 0, .slice none 0 0] rfl rfl 70 #[.int .u16 0, .int .u32 0, .int .u32 0, .int .u64 0, .int .u8 0, .int .u8 0, .int .u8 0, .int .u8 0, .int .u8 0, .int .u8 0, .int .u8 0, .int .u8 0, .int .u8 0, .int .u8 0, .int .u8 0, .int .u8 0, .int .u8 0, .int .u8 0, .int .u8 0, .int .u8 0, .slice none 0 0, .slice none 0 0, .int .u8 0, .int .u8 0, .int .u32 0, .slice none 0 0, .slice none 0 0] hz4 (by kernel_rfl) rfl (by kernel_rfl) ?_)
    have hw4 : ∃ w4, w4 = (((w2.alloc (.cells #[.int .u16 (xop : Int), .string name, .int .u8 (imm : Int), .slice Af nf cf, .slice At nt ct, .int .i64 (bits : Int), .bool plain] 129)).alloc (.cells #[.int .u16 0, .int .u32 0, .int .u32 0, .int .u64 0, .int .u8 0, .int .u8 0, .int .u8 0, .int .u8 0, .int .u8 0, .int .u8 0, .int .u8 0, .int .u8 0, .int .u8 0, .int .u8 0, .int .u8 0, .int .u8 0, .int .u8 0, .int .u8 0, .int .u8 0, .int .u8 0, .slice none 0 0, .slice none 0 0, .int .u8 0, .int .u8 0, .int .u32 0, .slice none 0 0, .slice none 0 0] 70)).setRow (w2.heap.size + 1) #[.int .u16 (xop : Int), .int .u32 0, .int .u32 0, .int .u64 0, .int .u8 0, .int .u8 0, .int .u8 0, .int .u8 0, .int .u8 0, .int .u8 0, .int .u8 0, .int .u8 0, .int .u8 0, .int .u8 0, .int .u8 0, .int .u8 0, .int .u8 0, .int .u8 0, .int .u8 0, .int .u8 0, .slice none 0 0, .slice none 0 0, .int .u8 0, .int .u8 0, .int .u32 0, .slice none 0 0, .slice none 0 0]) := ⟨_, rfl⟩
    obtain ⟨w4, hw4⟩ := hw4
    have hk4 : Kept S0 w2 w4 := by rw [hw4]; exact (((Kept.refl S0 w2).alloc _).alloc _).setRow (.inr (Nat.le_succ _)) _
    have hw : Blk w4 (w2.heap.size + 1) 70 #[.int .u16 (xop : Int), .int .u32 0, .int .u32 0, .int .u64 0, .int .u8 0, .int .u8 0, .int .u8 0, .int .u8 0, .int .u8 0, .int .u8 0, .int .u8 0, .int .u8 0, .int .u8 0, .int .u8 0, .int .u8 0, .int .u8 0, .int .u8 0, .int .u8 0, .int .u8 0, .int .u8 0, .slice none 0 0, .slice none 0 0, .int .u8 0, .int .u8 0, .int .u32 0, .slice none 0 0, .slice none 0 0] := by rw [hw4]; exact hz3.setRow _
    have hinfo : w4.cell? ⟨w2.heap.size, 2, none⟩ = some (.int .u8 (imm : Int)) := by
      rw [hw4]
      exact ((((Blk.new w2 129 #[.int .u16 (xop : Int), .string name, .int .u8 (imm : Int), .slice Af nf cf, .slice At nt ct, .int .i64 (bits : Int), .bool plain]).alloc _).setRowFar (by omega) _).cell 2)
    rw [← hw4]
    clear hw4 c2 hz3 hz4
    have HK4 := Lib.hid (HK2.out.then0 hk4)
    have HX4 := Lib.hid (HX2.out.kept0 hk4)
    have HB4 := Lib.hid (hk4.blk HB2.out (fun x => x))
    have HW4 := Lib.hid hw
    have HWL := Lib.hid (show w.heap.size ≤ w2.heap.size + 1 by have := HGL.out; omega)
    have HWB := Lib.hid (show g < w2.heap.size + 1 ∧ g = w.heap.size from ⟨by have := HGL.out; omega, hg.symm⟩)
    clear hk4 hw HK2 HX2 HB2 HGL
    generalize w2.heap.size = wi at *
    have x1 : w4.cell? ⟨g, 1, none⟩ = some (.int .u32 (xa : Int)) := HB4.out.cell 1
    have x3 : w4.cell? ⟨g, 3, none⟩ = some (.int .u64 (xn : Int)) := HB4.out.cell 3
    have q1 : w4.frozen? ⟨wi + 1, 1, none⟩ = false := HW4.out.frozen 1
    have z1 := HW4.out.cell 1
    have q3 : w4.frozen? ⟨wi + 1, 3, none⟩ = false := HW4.out.frozen 3
    have z3 := HW4.out.cell 3
    have uu := and_u64 xn
    obtain ⟨nm, hnm⟩ : ∃ nm, xn % 4294967296 = nm := ⟨_, rfl⟩
    rw [hnm] at uu
    have hk := HKK.out
    have HRR := Lib.hid (show fitsI ⟨xop, xa, xb, xn, xv, xlA, xln, xlc, xtA, xtn, xtc, xbk, xbv, xbt, xbA, xbn, xbc, xeA, xen, xec⟩ L T imm = (flatP (⟨xop, xa, 0, nm, fun _ => 0, none, 0, 0, none, 0, 0, 0, 0, 0, none, 0, 0, none, 0, 0⟩ : IC) [] [] ⟨xop, xa, xb, xn, xv, xlA, xln, xlc, xtA, xtn, xtc, xbk, xbv, xbt, xbA, xbn, xbc, xeA, xen, xec⟩ L T && (0 : Nat) == xbn && (0 : Nat) == xen) from by rcases hk with rfl <;> simp [fitsI, okP, restP, wantP, wantZ, hnm])
    clear hnm
    subst hk
    iterate 1
      go_upto_region 30 with fail
      go_region
      go_upto_region 52 with fail
      have hwf : Blk ((w4.setCell ⟨wi + 1, 1, none⟩ (.int .u32 (xa : Int))).setCell ⟨wi + 1, 3, none⟩ (.int .u64 (nm : Int))).drew (wi + 1) 70 #[.int .u16 (xop : Int), .int .u32 (xa : Int), .int .u32 0, .int .u64 (nm : Int), .int .u8 0, .int .u8 0, .int .u8 0, .int .u8 0, .int .u8 0, .int .u8 0, .int .u8 0, .int .u8 0, .int .u8 0, .int .u8 0, .int .u8 0, .int .u8 0, .int .u8 0, .int .u8 0, .int .u8 0, .int .u8 0, .slice none 0 0, .slice none 0 0, .int .u8 0, .int .u8 0, .int .u32 0, .slice none 0 0, .slice none 0 0] := ((HW4.out.set_ 1 (.int .u32 (xa : Int))).set_ 3 (.int .u64 (nm : Int)))
      have hkf : Kept S0 w ((w4.setCell ⟨wi + 1, 1, none⟩ (.int .u32 (xa : Int))).setCell ⟨wi + 1, 3, none⟩ (.int .u64 (nm : Int))).drew := Kept.drew <| ((HK4.out.setCell (p := ⟨wi + 1, 1, none⟩) (.inr HWL.out) (.int .u32 (xa : Int))).setCell (p := ⟨wi + 1, 3, none⟩) (.inr HWL.out) (.int .u64 (nm : Int)))
      have hk1 : Kept (S1 (wi + 1)) w4 ((w4.setCell ⟨wi + 1, 1, none⟩ (.int .u32 (xa : Int))).setCell ⟨wi + 1, 3, none⟩ (.int .u64 (nm : Int))).drew := Kept.drew <| (((Kept.refl (S1 (wi + 1)) w4).setCell (p := ⟨wi + 1, 1, none⟩) (.inl rfl) (.int .u32 (xa : Int))).setCell (p := ⟨wi + 1, 3, none⟩) (.inl rfl) (.int .u64 (nm : Int)))
      have hxf : Blk ((w4.setCell ⟨wi + 1, 1, none⟩ (.int .u32 (xa : Int))).setCell ⟨wi + 1, 3, none⟩ (.int .u64 (nm : Int))).drew g 70 #[.int .u16 (xop : Int), .int .u32 (xa : Int), .int .u32 (xb : Int), .int .u64 (xn : Int), .int .u8 ((xv 0).toNat : Int), .int .u8 ((xv 1).toNat : Int), .int .u8 ((xv 2).toNat : Int), .int .u8 ((xv 3).toNat : Int), .int .u8 ((xv 4).toNat : Int), .int .u8 ((xv 5).toNat : Int), .int .u8 ((xv 6).toNat : Int), .int .u8 ((xv 7).toNat : Int), .int .u8 ((xv 8).toNat : Int), .int .u8 ((xv 9).toNat : Int), .int .u8 ((xv 10).toNat : Int), .int .u8 ((xv 11).toNat : Int), .int .u8 ((xv 12).toNat : Int), .int .u8 ((xv 13).toNat : Int), .int .u8 ((xv 14).toNat : Int), .int .u8 ((xv 15).toNat : Int), .slice xlA xln xlc, .slice xtA xtn xtc, .int .u8 (xbk : Int), .int .u8 (xbv : Int), .int .u32 (xbt : Int), .slice xbA xbn xbc, .slice xeA xen xec] := hk1.blk HB4.out (fun e => by have e' : g = wi + 1 := e; have := HWB.out.1; omega)
      have hins : InsC ((w4.setCell ⟨wi + 1, 1, none⟩ (.int .u32 (xa : Int))).setCell ⟨wi + 1, 3, none⟩ (.int .u64 (nm : Int))).drew ⟨xop, xa, xb, xn, xv, xlA, xln, xlc, xtA, xtn, xtc, xbk, xbv, xbt, xbA, xbn, xbc, xeA, xen, xec⟩ L T := HX.out.kept0 hkf
      have HINS := Lib.hid hins
      have HXF := Lib.hid hxf
      have HWF := Lib.hid hwf
      have HKF := Lib.hid hkf
      clear hxf hwf hkf hk1 hins
      generalize hwz : ((w4.setCell ⟨wi + 1, 1, none⟩ (.int .u32 (xa : Int))).setCell ⟨wi + 1, 3, none⟩ (.int .u64 (nm : Int))).drew = w5 at *
      clear hwz
      have HF := Lib.hid (flat_any (⟨xop, xa, 0, nm, fun _ => 0, none, 0, 0, none, 0, 0, 0, 0, 0, none, 0, 0, none, 0, 0⟩ : IC) ⟨xop, xa, xb, xn, xv, xlA, xln, xlc, xtA, xtn, xtc, xbk, xbv, xbt, xbA, xbn, xbc, xeA, xen, xec⟩ [] [] L T w5 ⟨SlL.zero _ 1, SlL.zero _ 1⟩ HINS.out ⟨Nat.zero_le _, Nat.zero_le _, HLE.out.ln, HLE.out.tn⟩)
      generalize flatP (⟨xop, xa, 0, nm, fun _ => 0, none, 0, 0, none, 0, 0, 0, 0, 0, none, 0, 0, none, 0, 0⟩ : IC) [] [] ⟨xop, xa, xb, xn, xv, xlA, xln, xlc, xtA, xtn, xtc, xbk, xbv, xbt, xbA, xbn, xbc, xeA, xen, xec⟩ L T = fb at *
      have e1 : IC.arr (⟨xop, xa, 0, nm, fun _ => 0, none, 0, 0, none, 0, 0, 0, 0, 0, none, 0, 0, none, 0, 0⟩ : IC) = #[.int .u16 (xop : Int), .int .u32 (xa : Int), .int .u32 0, .int .u64 (nm : Int), .int .u8 0, .int .u8 0, .int .u8 0, .int .u8 0, .int .u8 0, .int .u8 0, .int .u8 0, .int .u8 0, .int .u8 0, .int .u8 0, .int .u8 0, .int .u8 0, .int .u8 0, .int .u8 0, .int .u8 0, .int .u8 0, .slice none 0 0, .slice none 0 0, .int .u8 0, .int .u8 0, .int .u32 0, .slice none 0 0, .slice none 0 0] := by unfold IC.arr; rfl
      rw [e1] at HF
      clear e1
      unfold IC.arr at HF
      refine wp_region_list ?_
      refine wpList_load_row rfl 70 _ rfl (wi + 1) rfl 70 #[.int .u16 (xop : Int), .int .u32 (xa : Int), .int .u32 0, .int .u64 (nm : Int), .int .u8 0, .int .u8 0, .int .u8 0, .int .u8 0, .int .u8 0, .int .u8 0, .int .u8 0, .int .u8 0, .int .u8 0, .int .u8 0, .int .u8 0, .int .u8 0, .int .u8 0, .int .u8 0, .int .u8 0, .int .u8 0, .slice none 0 0, .slice none 0 0, .int .u8 0, .int .u8 0, .int .u32 0, .slice none 0 0, .slice none 0 0] (0, 0) _ HWF.out Tryd.underlying70 rfl (by kernel_rfl) ?_
      refine wpList_load_row rfl 70 _ rfl g rfl 70 #[.int .u16 (xop : Int), .int .u32 (xa : Int), .int .u32 (xb : Int), .int .u64 (xn : Int), .int .u8 ((xv 0).toNat : Int), .int .u8 ((xv 1).toNat : Int), .int .u8 ((xv 2).toNat : Int), .int .u8 ((xv 3).toNat : Int), .int .u8 ((xv 4).toNat : Int), .int .u8 ((xv 5).toNat : Int), .int .u8 ((xv 6).toNat : Int), .int .u8 ((xv 7).toNat : Int), .int .u8 ((xv 8).toNat : Int), .int .u8 ((xv 9).toNat : Int), .int .u8 ((xv 10).toNat : Int), .int .u8 ((xv 11).toNat : Int), .int .u8 ((xv 12).toNat : Int), .int .u8 ((xv 13).toNat : Int), .int .u8 ((xv 14).toNat : Int), .int .u8 ((xv 15).toNat : Int), .slice xlA xln xlc, .slice xtA xtn xtc, .int .u8 (xbk : Int), .int .u8 (xbv : Int), .int .u32 (xbt : Int), .slice xbA xbn xbc, .slice xeA xen xec] (0, 0) _ HXF.out Tryd.underlying70 rfl (by kernel_rfl) ?_
      simp only [Act.put, List.setIfInBounds_toArray, List.set_cons_zero, List.set_cons_succ]
      go_wp2_with fail
      refine HF.out.mono ?_
      rintro e w6 ⟨rfl, hk6⟩
      have y8 : w6.cell? ⟨wi + 1, 25, none⟩ = some (.slice none 0 0) := (hk6.blk HWF.out (fun x => x)).cell 25
      have y9 : w6.cell? ⟨wi + 1, 26, none⟩ = some (.slice none 0 0) := (hk6.blk HWF.out (fun x => x)).cell 26
      have x8 : w6.cell? ⟨g, 25, none⟩ = some (.slice xbA xbn xbc) := (hk6.blk HXF.out (fun x => x)).cell 25
      have x9 : w6.cell? ⟨g, 26, none⟩ = some (.slice xeA xen xec) := (hk6.blk HXF.out (fun x => x)).cell 26
      have HKZ := Lib.hid (HKF.out.then0 hk6)
      have HQ := Lib.hid (show ∀ n : Nat, ((0 : Int) == (n : Int)) = ((0 : Nat) == n) from fun n => by rw [Bool.eq_iff_iff]; simp; omega)
      clear hk6
      cases fb with
      | false =>
        go_wp2_with fail
        go_ret
        exact ⟨ret_bool (by rw [HRR.out]; rfl), HKZ.out⟩
      | true =>
        go_wp2_with fail
        all_goals
          go_ret
          exact ⟨ret_bool (by rw [HRR.out, Bool.eq_iff_iff]; first | (simp; done) | (simp; omega)), HKZ.out⟩
end Go.Proofs.YtfmblalbcodpmaaDoor
namespace Go.Proofs.YtfmblalbcodpmaaDoor
open Go.RowKit
set_option maxRecDepth 100000 in
set_option maxHeartbeats 16000000 in
theorem fits_q (x : IC) (L T : List Nat) (w : World) (hx : InsC w x L T) (hle : ICle x) (hsp : SpTab w) (imm bits shp : Nat) (from_ to_ : List Nat) (hi : inf x.op = some (imm, bits, shp, from_, to_)) (hk : imm = 17) :
    Calls Tryd.prog 53 #[.agg x.arr] w fun e w' => e = .returned (.bool (fitsI x L T imm)) ∧ Kept S0 w w' := by
  have hka : Kept S0 w (w.alloc (.cells x.arr 70)) := (Kept.refl S0 w).alloc _
  have hb1 : Blk (w.alloc (.cells x.arr 70)) w.heap.size 70 x.arr := Blk.new w _ _
  have HX := Lib.hid hx
  have HKA := Lib.hid hka
  have HSP := Lib.hid hsp
  have HO := Lib.hid (fun w' hs => of_any x.op w' hle.op hs)
  have hop := hle.op
  have HLE := Lib.hid hle
  have HI := Lib.hid hi
  have HKK := Lib.hid hk
  clear hx hka hsp hle hi hk
  unfold IC.arr at *
  obtain ⟨xop, xa, xb, xn, xv, xlA, xln, xlc, xtA, xtn, xtc, xbk, xbv, xbt, xbA, xbn, xbc, xeA, xen, xec⟩ := x
  simp only at *
  have HB1 := Lib.hid hb1
  have c0 : (w.alloc (.cells #[.int .u16 (xop : Int), .int .u32 (xa : Int), .int .u32 (xb : Int), .int .u64 (xn : Int), .int .u8 ((xv 0).toNat : Int), .int .u8 ((xv 1).toNat : Int), .int .u8 ((xv 2).toNat : Int), .int .u8 ((xv 3).toNat : Int), .int .u8 ((xv 4).toNat : Int), .int .u8 ((xv 5).toNat : Int), .int .u8 ((xv 6).toNat : Int), .int .u8 ((xv 7).toNat : Int), .int .u8 ((xv 8).toNat : Int), .int .u8 ((xv 9).toNat : Int), .int .u8 ((xv 10).toNat : Int), .int .u8 ((xv 11).toNat : Int), .int .u8 ((xv 12).toNat : Int), .int .u8 ((xv 13).toNat : Int), .int .u8 ((xv 14).toNat : Int), .int .u8 ((xv 15).toNat : Int), .slice xlA xln xlc, .slice xtA xtn xtc, .int .u8 (xbk : Int), .int .u8 (xbv : Int), .int .u32 (xbt : Int), .slice xbA xbn xbc, .slice xeA xen xec] 70)).cell? ⟨w.heap.size, 0, none⟩ = some (.int .u16 (xop : Int)) := hb1.cell 0
  clear hb1
  go_enter Tryd.func53, Tryd.ntmps53
  go_wp2_with fail
  generalize (w.alloc (.cells #[.int .u16 (xop : Int), .int .u32 (xa : Int), .int .u32 (xb : Int), .int .u64 (xn : Int), .int .u8 ((xv 0).toNat : Int), .int .u8 ((xv 1).toNat : Int), .int .u8 ((xv 2).toNat : Int), .int .u8 ((xv 3).toNat : Int), .int .u8 ((xv 4).toNat : Int), .int .u8 ((xv 5).toNat : Int), .int .u8 ((xv 6).toNat : Int), .int .u8 ((xv 7).toNat : Int), .int .u8 ((xv 8).toNat : Int), .int .u8 ((xv 9).toNat : Int), .int .u8 ((xv 10).toNat : Int), .int .u8 ((xv 11).toNat : Int), .int .u8 ((xv 12).toNat : Int), .int .u8 ((xv 13).toNat : Int), .int .u8 ((xv 14).toNat : Int), .int .u8 ((xv 15).toNat : Int), .slice xlA xln xlc, .slice xtA xtn xtc, .int .u8 (xbk : Int), .int .u8 (xbv : Int), .int .u32 (xbt : Int), .slice xbA xbn xbc, .slice xeA xen xec] 70)) = w1 at *
  have HSZ := Lib.hid (show w.heap.size < w1.heap.size from HB1.out.lt)
  generalize hg : w.heap.size = g at *
  refine (HO.out w1 (HSP.out.kept0 HKA.out)).mono ?_
  rintro e w2 ⟨hk2, ⟨hi, rfl⟩ | ⟨i, name, plain, vf, vt, hi, rfl, hinf⟩⟩
  · rw [HI.out] at hi
    cases hi
  · rw [HI.out] at hi
    obtain rfl := Option.some.inj hi
    obtain ⟨Af, cf, rfl, _⟩ := hinf.from_.out
    obtain ⟨At, ct, rfl, _⟩ := hinf.to_.out
    simp only
    have HK2 := Lib.hid (HKA.out.then0 hk2)
    have HX2 := Lib.hid (HX.out.kept0 (HKA.out.then0 hk2))
    have hb2 := hk2.blk HB1.out (fun x => x)
    have HB2 := Lib.hid hb2
    generalize from_.length = nf at *
    generalize to_.length = nt at *
    have c2 : (w2.alloc (.cells #[.int .u16 (xop : Int), .string name, .int .u8 (imm : Int), .slice Af nf cf, .slice At nt ct, .int .i64 (bits : Int), .bool plain] 129)).cell? ⟨g, 0, none⟩ = some (.int .u16 (xop : Int)) := (hb2.alloc _).cell 0
    have HGL := Lib.hid (show g < w2.heap.size from hb2.lt)
    clear hk2 c0 hinf hb2 hi HO
    have hz3 : Blk ((w2.alloc (.cells #[.int .u16 (xop : Int), .string name, .int .u8 (imm : Int), .slice Af nf cf, .slice At nt ct, .int .i64 (bits : Int), .bool plain] 129)).alloc (.cells #[.int .u16 0, .int .u32 0, .int .u32 0, .int .u64 0, .int .u8 0, .int .u8 0, .int .u8 0, .int .u8 0, .int .u8 0, .int .u8 0, .int .u8 0, .int .u8 0, .int .u8 0, .int .u8 0, .int .u8 0, .int .u8 0, .int .u8 0, .int .u8 0, .int .u8 0, .int .u8 0, .slice none 0 0, .slice none 0 0, .int .u8 0, .int .u8 0, .int .u32 0, .slice none 0 0, .slice none 0 0] 70)) (w2.heap.size + 1) 70 #[.int .u16 0, .int .u32 0, .int .u32 0, .int .u64 0, .int .u8 0, .int .u8 0, .int .u8 0, .int .u8 0, .int .u8 0, .int .u8 0, .int .u8 0, .int .u8 0, .int .u8 0, .int .u8 0, .int .u8 0, .int .u8 0, .int .u8 0, .int .u8 0, .int .u8 0, .int .u8 0, .slice none 0 0, .slice none 0 0, .int .u8 0, .int .u8 0, .int .u32 0, .slice none 0 0, .slice none 0 0] := Blk.new1 w2 _ _ _
    have hz4 := hz3
    unfold Blk at hz4
    go_upto_region 5 with (refine wpList_store_row rfl 70 _ _ rfl (w2.heap.size + 1) #[.int .u16 (xop : Int), .int .u32 0, .int .u32 0, .int .u64 0, .int .u8 0, .int .u8 0, .int .u8 0, .int .u8 0, .int .u8 0, .int .u8 0, .int .u8 0, .int .u8 0, .int .u8 0, .int .u8 0, .int .u8 0, .int .u8 0, .int .u8 0, .int .u8 0, .int .u8 0, .int .u8 0, .slice none 0 0, .slice none 0 0, .int .u8 0, .int .u8 0, .int .u32 0, .slice none 0 0, .slice none 0 0] rfl rfl 70 #[.int .u16 0, .int .u32 0, .int .u32 0, .int .u64 0, .int .u8 0, .int .u8 0, .int .u8 0, .int .u8 0, .int .u8 0, .int .u8 0, .int .u8 0, .int .u8 0, .int .u8 0, .int .u8 0, .int .u8 0, .int .u8 0, .int .u8 0, .int .u8 0, .int .u8 0, .int .u8 0, .slice none 0 0, .slice none 0 0, .int .u8 0, .int .u8 0, .int .u32 0, .slice none 0 0, .slice none 0 0] hz4 (by kernel_rfl) rfl (by kernel_rfl) ?_)
    have hw4 : ∃ w4, w4 = (((w2.alloc (.cells #[.int .u16 (xop : Int), .string name, .int .u8 (imm : Int), .slice Af nf cf, .slice At nt ct, .int .i64 (bits : Int), .bool plain] 129)).alloc (.cells #[.int .u16 0, .int .u32 0, .int .u32 0, .int .u64 0, .int .u8 0, .int .u8 0, .int .u8 0, .int .u8 0, .int .u8 0, .int .u8 0, .int .u8 0, .int .u8 0, .int .u8 0, .int .u8 0, .int .u8 0, .int .u8 0, .int .u8 0, .int .u8 0, .int .u8 0, .int .u8 0, .slice none 0 0, .slice none 0 0, .int .u8 0, .int .u8 0, .int .u32 0, .slice none 0 0, .slice none 0 0] 70)).setRow (w2.heap.size + 1) #[.int .u16 (xop : Int), .int .u32 0, .int .u32 0, .int .u64 0, .int .u8 0, .int .u8 0, .int .u8 0, .int .u8 0, .int .u8 0, .int .u8 0, .int .u8 0, .int .u8 0, .int .u8 0, .int .u8 0, .int .u8 0, .int .u8 0, .int .u8 0, .int .u8 0, .int .u8 0, .int .u8 0, .slice none 0 0, .slice none 0 0, .int .u8 0, .int .u8 0, .int .u32 0, .slice none 0 0, .slice none 0 0]) := ⟨_, rfl⟩
    obtain ⟨w4, hw4⟩ := hw4
    have hk4 : Kept S0 w2 w4 := by rw [hw4]; exact (((Kept.refl S0 w2).alloc _).alloc _).setRow (.inr (Nat.le_succ _)) _
    have hw : Blk w4 (w2.heap.size + 1) 70 #[.int .u16 (xop : Int), .int .u32 0, .int .u32 0, .int .u64 0, .int .u8 0, .int .u8 0, .int .u8 0, .int .u8 0, .int .u8 0, .int .u8 0, .int .u8 0, .int .u8 0, .int .u8 0, .int .u8 0, .int .u8 0, .int .u8 0, .int .u8 0, .int .u8 0, .int .u8 0, .int .u8 0, .slice none 0 0, .slice none 0 0, .int .u8 0, .int .u8 0, .int .u32 0, .slice none 0 0, .slice none 0 0] := by rw [hw4]; exact hz3.setRow _
    have hinfo : w4.cell? ⟨w2.heap.size, 2, none⟩ = some (.int .u8 (imm : Int)) := by
      rw [hw4]
      exact ((((Blk.new w2 129 #[.int .u16 (xop : Int), .string name, .int .u8 (imm : Int), .slice Af nf cf, .slice At nt ct, .int .i64 (bits : Int), .bool plain]).alloc _).setRowFar (by omega) _).cell 2)
    rw [← hw4]
    clear hw4 c2 hz3 hz4
    have HK4 := Lib.hid (HK2.out.then0 hk4)
    have HX4 := Lib.hid (HX2.out.kept0 hk4)
    have HB4 := Lib.hid (hk4.blk HB2.out (fun x => x))
    have HW4 := Lib.hid hw
    have HWL := Lib.hid (show w.heap.size ≤ w2.heap.size + 1 by have := HGL.out; omega)
    have HWB := Lib.hid (show g < w2.heap.size + 1 ∧ g = w.heap.size from ⟨by have := HGL.out; omega, hg.symm⟩)
    clear hk4 hw HK2 HX2 HB2 HGL
    generalize w2.heap.size = wi at *
    have x1 : w4.cell? ⟨g, 1, none⟩ = some (.int .u32 (xa : Int)) := HB4.out.cell 1
    have x2 : w4.cell? ⟨g, 2, none⟩ = some (.int .u32 (xb : Int)) := HB4.out.cell 2
    have x3 : w4.cell? ⟨g, 3, none⟩ = some (.int .u64 (xn : Int)) := HB4.out.cell 3
    have q1 : w4.frozen? ⟨wi + 1, 1, none⟩ = false := HW4.out.frozen 1
    have z1 := HW4.out.cell 1
    have q3 : w4.frozen? ⟨wi + 1, 3, none⟩ = false := HW4.out.frozen 3
    have z3 := HW4.out.cell 3
    have q2 : w4.frozen? ⟨wi + 1, 2, none⟩ = false := HW4.out.frozen 2
    have z2 := HW4.out.cell 2
    have uu := and_u64 xn
    obtain ⟨nm, hnm⟩ : ∃ nm, xn % 4294967296 = nm := ⟨_, rfl⟩
    rw [hnm] at uu
    have ub := and_u32 xb
    obtain ⟨bm, hbm⟩ : ∃ bm, xb % 256 = bm := ⟨_, rfl⟩
    rw [hbm] at ub
    have hk := HKK.out
    have HRR := Lib.hid (show fitsI ⟨xop, xa, xb, xn, xv, xlA, xln, xlc, xtA, xtn, xtc, xbk, xbv, xbt, xbA, xbn, xbc, xeA, xen, xec⟩ L T imm = (flatP (⟨xop, xa, bm, nm, fun _ => 0, none, 0, 0, none, 0, 0, 0, 0, 0, none, 0, 0, none, 0, 0⟩ : IC) [] [] ⟨xop, xa, xb, xn, xv, xlA, xln, xlc, xtA, xtn, xtc, xbk, xbv, xbt, xbA, xbn, xbc, xeA, xen, xec⟩ L T && (0 : Nat) == xbn && (0 : Nat) == xen) from by rcases hk with rfl <;> simp [fitsI, okP, restP, wantP, wantZ, hnm, hbm])
    clear hnm hbm
    subst hk
    iterate 1
      go_upto_region 32 with fail
      go_region
      go_upto_region 52 with fail
      have hwf : Blk (((w4.setCell ⟨wi + 1, 1, none⟩ (.int .u32 (xa : Int))).setCell ⟨wi + 1, 3, none⟩ (.int .u64 (nm : Int))).setCell ⟨wi + 1, 2, none⟩ (.int .u32 (bm : Int))).drew (wi + 1) 70 #[.int .u16 (xop : Int), .int .u32 (xa : Int), .int .u32 (bm : Int), .int .u64 (nm : Int), .int .u8 0, .int .u8 0, .int .u8 0, .int .u8 0, .int .u8 0, .int .u8 0, .int .u8 0, .int .u8 0, .int .u8 0, .int .u8 0, .int .u8 0, .int .u8 0, .int .u8 0, .int .u8 0, .int .u8 0, .int .u8 0, .slice none 0 0, .slice none 0 0, .int .u8 0, .int .u8 0, .int .u32 0, .slice none 0 0, .slice none 0 0] := (((HW4.out.set_ 1 (.int .u32 (xa : Int))).set_ 3 (.int .u64 (nm : Int))).set_ 2 (.int .u32 (bm : Int)))
      have hkf : Kept S0 w (((w4.setCell ⟨wi + 1, 1, none⟩ (.int .u32 (xa : Int))).setCell ⟨wi + 1, 3, none⟩ (.int .u64 (nm : Int))).setCell ⟨wi + 1, 2, none⟩ (.int .u32 (bm : Int))).drew := Kept.drew <| (((HK4.out.setCell (p := ⟨wi + 1, 1, none⟩) (.inr HWL.out) (.int .u32 (xa : Int))).setCell (p := ⟨wi + 1, 3, none⟩) (.inr HWL.out) (.int .u64 (nm : Int))).setCell (p := ⟨wi + 1, 2, none⟩) (.inr HWL.out) (.int .u32 (bm : Int)))
      have hk1 : Kept (S1 (wi + 1)) w4 (((w4.setCell ⟨wi + 1, 1, none⟩ (.int .u32 (xa : Int))).setCell ⟨wi + 1, 3, none⟩ (.int .u64 (nm : Int))).setCell ⟨wi + 1, 2, none⟩ (.int .u32 (bm : Int))).drew := Kept.drew <| ((((Kept.refl (S1 (wi + 1)) w4).setCell (p := ⟨wi + 1, 1, none⟩) (.inl rfl) (.int .u32 (xa : Int))).setCell (p := ⟨wi + 1, 3, none⟩) (.inl rfl) (.int .u64 (nm : Int))).setCell (p := ⟨wi + 1, 2, none⟩) (.inl rfl) (.int .u32 (bm : Int)))
      have hxf : Blk (((w4.setCell ⟨wi + 1, 1, none⟩ (.int .u32 (xa : Int))).setCell ⟨wi + 1, 3, none⟩ (.int .u64 (nm : Int))).setCell ⟨wi + 1, 2, none⟩ (.int .u32 (bm : Int))).drew g 70 #[.int .u16 (xop : Int), .int .u32 (xa : Int), .int .u32 (xb : Int), .int .u64 (xn : Int), .int .u8 ((xv 0).toNat : Int), .int .u8 ((xv 1).toNat : Int), .int .u8 ((xv 2).toNat : Int), .int .u8 ((xv 3).toNat : Int), .int .u8 ((xv 4).toNat : Int), .int .u8 ((xv 5).toNat : Int), .int .u8 ((xv 6).toNat : Int), .int .u8 ((xv 7).toNat : Int), .int .u8 ((xv 8).toNat : Int), .int .u8 ((xv 9).toNat : Int), .int .u8 ((xv 10).toNat : Int), .int .u8 ((xv 11).toNat : Int), .int .u8 ((xv 12).toNat : Int), .int .u8 ((xv 13).toNat : Int), .int .u8 ((xv 14).toNat : Int), .int .u8 ((xv 15).toNat : Int), .slice xlA xln xlc, .slice xtA xtn xtc, .int .u8 (xbk : Int), .int .u8 (xbv : Int), .int .u32 (xbt : Int), .slice xbA xbn xbc, .slice xeA xen xec] := hk1.blk HB4.out (fun e => by have e' : g = wi + 1 := e; have := HWB.out.1; omega)
      have hins : InsC (((w4.setCell ⟨wi + 1, 1, none⟩ (.int .u32 (xa : Int))).setCell ⟨wi + 1, 3, none⟩ (.int .u64 (nm : Int))).setCell ⟨wi + 1, 2, none⟩ (.int .u32 (bm : Int))).drew ⟨xop, xa, xb, xn, xv, xlA, xln, xlc, xtA, xtn, xtc, xbk, xbv, xbt, xbA, xbn, xbc, xeA, xen, xec⟩ L T := HX.out.kept0 hkf
      have HINS := Lib.hid hins
      have HXF := Lib.hid hxf
      have HWF := Lib.hid hwf
      have HKF := Lib.hid hkf
      clear hxf hwf hkf hk1 hins
      generalize hwz : (((w4.setCell ⟨wi + 1, 1, none⟩ (.int .u32 (xa : Int))).setCell ⟨wi + 1, 3, none⟩ (.int .u64 (nm : Int))).setCell ⟨wi + 1, 2, none⟩ (.int .u32 (bm : Int))).drew = w5 at *
      clear hwz
      have HF := Lib.hid (flat_any (⟨xop, xa, bm, nm, fun _ => 0, none, 0, 0, none, 0, 0, 0, 0, 0, none, 0, 0, none, 0, 0⟩ : IC) ⟨xop, xa, xb, xn, xv, xlA, xln, xlc, xtA, xtn, xtc, xbk, xbv, xbt, xbA, xbn, xbc, xeA, xen, xec⟩ [] [] L T w5 ⟨SlL.zero _ 1, SlL.zero _ 1⟩ HINS.out ⟨Nat.zero_le _, Nat.zero_le _, HLE.out.ln, HLE.out.tn⟩)
      generalize flatP (⟨xop, xa, bm, nm, fun _ => 0, none, 0, 0, none, 0, 0, 0, 0, 0, none, 0, 0, none, 0, 0⟩ : IC) [] [] ⟨xop, xa, xb, xn, xv, xlA, xln, xlc, xtA, xtn, xtc, xbk, xbv, xbt, xbA, xbn, xbc, xeA, xen, xec⟩ L T = fb at *
      have e1 : IC.arr (⟨xop, xa, bm, nm, fun _ => 0, none, 0, 0, none, 0, 0, 0, 0, 0, none, 0, 0, none, 0, 0⟩ : IC) = #[.int .u16 (xop : Int), .int .u32 (xa : Int), .int .u32 (bm : Int), .int .u64 (nm : Int), .int .u8 0, .int .u8 0, .int .u8 0, .int .u8 0, .int .u8 0, .int .u8 0, .int .u8 0, .int .u8 0, .int .u8 0, .int .u8 0, .int .u8 0, .int .u8 0, .int .u8 0, .int .u8 0, .int .u8 0, .int .u8 0, .slice none 0 0, .slice none 0 0, .int .u8 0, .int .u8 0, .int .u32 0, .slice none 0 0, .slice none 0 0] := by unfold IC.arr; rfl
      rw [e1] at HF
      clear e1
      unfold IC.arr at HF
      refine wp_region_list ?_
      refine wpList_load_row rfl 70 _ rfl (wi + 1) rfl 70 #[.int .u16 (xop : Int), .int .u32 (xa : Int), .int .u32 (bm : Int), .int .u64 (nm : Int), .int .u8 0, .int .u8 0, .int .u8 0, .int .u8 0, .int .u8 0, .int .u8 0, .int .u8 0, .int .u8 0, .int .u8 0, .int .u8 0, .int .u8 0, .int .u8 0, .int .u8 0, .int .u8 0, .int .u8 0, .int .u8 0, .slice none 0 0, .slice none 0 0, .int .u8 0, .int .u8 0, .int .u32 0, .slice none 0 0, .slice none 0 0] (0, 0) _ HWF.out Tryd.underlying70 rfl (by kernel_rfl) ?_
      refine wpList_load_row rfl 70 _ rfl g rfl 70 #[.int .u16 (xop : Int), .int .u32 (xa : Int), .int .u32 (xb : Int), .int .u64 (xn : Int), .int .u8 ((xv 0).toNat : Int), .int .u8 ((xv 1).toNat : Int), .int .u8 ((xv 2).toNat : Int), .int .u8 ((xv 3).toNat : Int), .int .u8 ((xv 4).toNat : Int), .int .u8 ((xv 5).toNat : Int), .int .u8 ((xv 6).toNat : Int), .int .u8 ((xv 7).toNat : Int), .int .u8 ((xv 8).toNat : Int), .int .u8 ((xv 9).toNat : Int), .int .u8 ((xv 10).toNat : Int), .int .u8 ((xv 11).toNat : Int), .int .u8 ((xv 12).toNat : Int), .int .u8 ((xv 13).toNat : Int), .int .u8 ((xv 14).toNat : Int), .int .u8 ((xv 15).toNat : Int), .slice xlA xln xlc, .slice xtA xtn xtc, .int .u8 (xbk : Int), .int .u8 (xbv : Int), .int .u32 (xbt : Int), .slice xbA xbn xbc, .slice xeA xen xec] (0, 0) _ HXF.out Tryd.underlying70 rfl (by kernel_rfl) ?_
      simp only [Act.put, List.setIfInBounds_toArray, List.set_cons_zero, List.set_cons_succ]
      go_wp2_with fail
      refine HF.out.mono ?_
      rintro e w6 ⟨rfl, hk6⟩
      have y8 : w6.cell? ⟨wi + 1, 25, none⟩ = some (.slice none 0 0) := (hk6.blk HWF.out (fun x => x)).cell 25
      have y9 : w6.cell? ⟨wi + 1, 26, none⟩ = some (.slice none 0 0) := (hk6.blk HWF.out (fun x => x)).cell 26
      have x8 : w6.cell? ⟨g, 25, none⟩ = some (.slice xbA xbn xbc) := (hk6.blk HXF.out (fun x => x)).cell 25
      have x9 : w6.cell? ⟨g, 26, none⟩ = some (.slice xeA xen xec) := (hk6.blk HXF.out (fun x => x)).cell 26
      have HKZ := Lib.hid (HKF.out.then0 hk6)
      have HQ := Lib.hid (show ∀ n : Nat, ((0 : Int) == (n : Int)) = ((0 : Nat) == n) from fun n => by rw [Bool.eq_iff_iff]; simp; omega)
      clear hk6
      cases fb with
      | false =>
        go_wp2_with fail
        go_ret
        exact ⟨ret_bool (by rw [HRR.out]; rfl), HKZ.out⟩
      | true =>
        go_wp2_with fail
        all_goals
          go_ret
          exact ⟨ret_bool (by rw [HRR.out, Bool.eq_iff_iff]; first | (simp; done) | (simp; omega)), HKZ.out⟩
end Go.Proofs.YtfmblalbcodpmaaDoor
namespace Go.Proofs.YtfmblalbcodpmaaDoor
open Go.RowKit
set_option maxRecDepth 100000 in
set_option maxHeartbeats 16000000 in
theorem fits_r0 (x : IC) (L T : List Nat) (w : World) (hx : InsC w x L T) (hle : ICle x) (hsp : SpTab w) (imm bits shp : Nat) (from_ to_ : List Nat) (hi : inf x.op = some (imm, bits, shp, from_, to_)) (h1 : x.tn ≠ 1) (hk : imm = 25) :
    Calls Tryd.prog 53 #[.agg x.arr] w fun e w' => e = .returned (.bool (fitsI x L T imm)) ∧ Kept S0 w w' := by
  have hka : Kept S0 w (w.alloc (.cells x.arr 70)) := (Kept.refl S0 w).alloc _
  have hb1 : Blk (w.alloc (.cells x.arr 70)) w.heap.size 70 x.arr := Blk.new w _ _
  have HX := Lib.hid hx
  have HKA := Lib.hid hka
  have HSP := Lib.hid hsp
  have HO := Lib.hid (fun w' hs => of_any x.op w' hle.op hs)
  have hop := hle.op
  have HLE := Lib.hid hle
  have HI := Lib.hid hi
  have HKK := Lib.hid hk
  clear hx hka hsp hle hi hk
  unfold IC.arr at *
  obtain ⟨xop, xa, xb, xn, xv, xlA, xln, xlc, xtA, xtn, xtc, xbk, xbv, xbt, xbA, xbn, xbc, xeA, xen, xec⟩ := x
  simp only at *
  have HB1 := Lib.hid hb1
  have c0 : (w.alloc (.cells #[.int .u16 (xop : Int), .int .u32 (xa : Int), .int .u32 (xb : Int), .int .u64 (xn : Int), .int .u8 ((xv 0).toNat : Int), .int .u8 ((xv 1).toNat : Int), .int .u8 ((xv 2).toNat : Int), .int .u8 ((xv 3).toNat : Int), .int .u8 ((xv 4).toNat : Int), .int .u8 ((xv 5).toNat : Int), .int .u8 ((xv 6).toNat : Int), .int .u8 ((xv 7).toNat : Int), .int .u8 ((xv 8).toNat : Int), .int .u8 ((xv 9).toNat : Int), .int .u8 ((xv 10).toNat : Int), .int .u8 ((xv 11).toNat : Int), .int .u8 ((xv 12).toNat : Int), .int .u8 ((xv 13).toNat : Int), .int .u8 ((xv 14).toNat : Int), .int .u8 ((xv 15).toNat : Int), .slice xlA xln xlc, .slice xtA xtn xtc, .int .u8 (xbk : Int), .int .u8 (xbv : Int), .int .u32 (xbt : Int), .slice xbA xbn xbc, .slice xeA xen xec] 70)).cell? ⟨w.heap.size, 0, none⟩ = some (.int .u16 (xop : Int)) := hb1.cell 0
  clear hb1
  go_enter Tryd.func53, Tryd.ntmps53
  go_wp2_with fail
  generalize (w.alloc (.cells #[.int .u16 (xop : Int), .int .u32 (xa : Int), .int .u32 (xb : Int), .int .u64 (xn : Int), .int .u8 ((xv 0).toNat : Int), .int .u8 ((xv 1).toNat : Int), .int .u8 ((xv 2).toNat : Int), .int .u8 ((xv 3).toNat : Int), .int .u8 ((xv 4).toNat : Int), .int .u8 ((xv 5).toNat : Int), .int .u8 ((xv 6).toNat : Int), .int .u8 ((xv 7).toNat : Int), .int .u8 ((xv 8).toNat : Int), .int .u8 ((xv 9).toNat : Int), .int .u8 ((xv 10).toNat : Int), .int .u8 ((xv 11).toNat : Int), .int .u8 ((xv 12).toNat : Int), .int .u8 ((xv 13).toNat : Int), .int .u8 ((xv 14).toNat : Int), .int .u8 ((xv 15).toNat : Int), .slice xlA xln xlc, .slice xtA xtn xtc, .int .u8 (xbk : Int), .int .u8 (xbv : Int), .int .u32 (xbt : Int), .slice xbA xbn xbc, .slice xeA xen xec] 70)) = w1 at *
  have HSZ := Lib.hid (show w.heap.size < w1.heap.size from HB1.out.lt)
  generalize hg : w.heap.size = g at *
  refine (HO.out w1 (HSP.out.kept0 HKA.out)).mono ?_
  rintro e w2 ⟨hk2, ⟨hi, rfl⟩ | ⟨i, name, plain, vf, vt, hi, rfl, hinf⟩⟩
  · rw [HI.out] at hi
    cases hi
  · rw [HI.out] at hi
    obtain rfl := Option.some.inj hi
    obtain ⟨Af, cf, rfl, _⟩ := hinf.from_.out
    obtain ⟨At, ct, rfl, _⟩ := hinf.to_.out
    simp only
    have HK2 := Lib.hid (HKA.out.then0 hk2)
    have HX2 := Lib.hid (HX.out.kept0 (HKA.out.then0 hk2))
    have hb2 := hk2.blk HB1.out (fun x => x)
    have HB2 := Lib.hid hb2
    generalize from_.length = nf at *
    generalize to_.length = nt at *
    have c2 : (w2.alloc (.cells #[.int .u16 (xop : Int), .string name, .int .u8 (imm : Int), .slice Af nf cf, .slice At nt ct, .int .i64 (bits : Int), .bool plain] 129)).cell? ⟨g, 0, none⟩ = some (.int .u16 (xop : Int)) := (hb2.alloc _).cell 0
    have HGL := Lib.hid (show g < w2.heap.size from hb2.lt)
    clear hk2 c0 hinf hb2 hi HO
    have hz3 : Blk ((w2.alloc (.cells #[.int .u16 (xop : Int), .string name, .int .u8 (imm : Int), .slice Af nf cf, .slice At nt ct, .int .i64 (bits : Int), .bool plain] 129)).alloc (.cells #[.int .u16 0, .int .u32 0, .int .u32 0, .int .u64 0, .int .u8 0, .int .u8 0, .int .u8 0, .int .u8 0, .int .u8 0, .int .u8 0, .int .u8 0, .int .u8 0, .int .u8 0, .int .u8 0, .int .u8 0, .int .u8 0, .int .u8 0, .int .u8 0, .int .u8 0, .int .u8 0, .slice none 0 0, .slice none 0 0, .int .u8 0, .int .u8 0, .int .u32 0, .slice none 0 0, .slice none 0 0] 70)) (w2.heap.size + 1) 70 #[.int .u16 0, .int .u32 0, .int .u32 0, .int .u64 0, .int .u8 0, .int .u8 0, .int .u8 0, .int .u8 0, .int .u8 0, .int .u8 0, .int .u8 0, .int .u8 0, .int .u8 0, .int .u8 0, .int .u8 0, .int .u8 0, .int .u8 0, .int .u8 0, .int .u8 0, .int .u8 0, .slice none 0 0, .slice none 0 0, .int .u8 0, .int .u8 0, .int .u32 0, .slice none 0 0, .slice none 0 0] := Blk.new1 w2 _ _ _
    have hz4 := hz3
    unfold Blk at hz4
    go_upto_region 5 with (refine wpList_store_row rfl 70 _ _ rfl (w2.heap.size + 1) #[.int .u16 (xop : Int), .int .u32 0, .int .u32 0, .int .u64 0, .int .u8 0, .int .u8 0, .int .u8 0, .int .u8 0, .int .u8 0, .int .u8 0, .int .u8 0, .int .u8 0, .int .u8 0, .int .u8 0, .int .u8 0, .int .u8 0, .int .u8 0, .int .u8 0, .int .u8 0, .int .u8 0, .slice none 0 0, .slice none 0 0, .int .u8 0, .int .u8 0, .int .u32 0, .slice none 0 0, .slice none 0 0] rfl rfl 70 #[.int .u16 0, .int .u32 0, .int .u32 0, .int .u64 0, .int .u8 0, .int .u8 0, .int .u8 0, .int .u8 0, .int .u8 0, .int .u8 0, .int .u8 0, .int .u8 0, .int .u8 0, .int .u8 0, .int .u8 0, .int .u8 0, .int .u8 0, .int .u8 0, .int .u8 0, .int .u8 0, .slice none 0 0, .slice none 0 0, .int .u8 0, .int .u8 0, .int .u32 0, .slice none 0 0, .slice none 0 0] hz4 (by kernel_rfl) rfl (by kernel_rfl) ?_)
    have hw4 : ∃ w4, w4 = (((w2.alloc (.cells #[.int .u16 (xop : Int), .string name, .int .u8 (imm : Int), .slice Af nf cf, .slice At nt ct, .int .i64 (bits : Int), .bool plain] 129)).alloc (.cells #[.int .u16 0, .int .u32 0, .int .u32 0, .int .u64 0, .int .u8 0, .int .u8 0, .int .u8 0, .int .u8 0, .int .u8 0, .int .u8 0, .int .u8 0, .int .u8 0, .int .u8 0, .int .u8 0, .int .u8 0, .int .u8 0, .int .u8 0, .int .u8 0, .int .u8 0, .int .u8 0, .slice none 0 0, .slice none 0 0, .int .u8 0, .int .u8 0, .int .u32 0, .slice none 0 0, .slice none 0 0] 70)).setRow (w2.heap.size + 1) #[.int .u16 (xop : Int), .int .u32 0, .int .u32 0, .int .u64 0, .int .u8 0, .int .u8 0, .int .u8 0, .int .u8 0, .int .u8 0, .int .u8 0, .int .u8 0, .int .u8 0, .int .u8 0, .int .u8 0, .int .u8 0, .int .u8 0, .int .u8 0, .int .u8 0, .int .u8 0, .int .u8 0, .slice none 0 0, .slice none 0 0, .int .u8 0, .int .u8 0, .int .u32 0, .slice none 0 0, .slice none 0 0]) := ⟨_, rfl⟩
    obtain ⟨w4, hw4⟩ := hw4
    have hk4 : Kept S0 w2 w4 := by rw [hw4]; exact (((Kept.refl S0 w2).alloc _).alloc _).setRow (.inr (Nat.le_succ _)) _
    have hw : Blk w4 (w2.heap.size + 1) 70 #[.int .u16 (xop : Int), .int .u32 0, .int .u32 0, .int .u64 0, .int .u8 0, .int .u8 0, .int .u8 0, .int .u8 0, .int .u8 0, .int .u8 0, .int .u8 0, .int .u8 0, .int .u8 0, .int .u8 0, .int .u8 0, .int .u8 0, .int .u8 0, .int .u8 0, .int .u8 0, .int .u8 0, .slice none 0 0, .slice none 0 0, .int .u8 0, .int .u8 0, .int .u32 0, .slice none 0 0, .slice none 0 0] := by rw [hw4]; exact hz3.setRow _
    have hinfo : w4.cell? ⟨w2.heap.size, 2, none⟩ = some (.int .u8 (imm : Int)) := by
      rw [hw4]
      exact ((((Blk.new w2 129 #[.int .u16 (xop : Int), .string name, .int .u8 (imm : Int), .slice Af nf cf, .slice At nt ct, .int .i64 (bits : Int), .bool plain]).alloc _).setRowFar (by omega) _).cell 2)
    rw [← hw4]
    clear hw4 c2 hz3 hz4
    have HK4 := Lib.hid (HK2.out.then0 hk4)
    have HX4 := Lib.hid (HX2.out.kept0 hk4)
    have HB4 := Lib.hid (hk4.blk HB2.out (fun x => x))
    have HW4 := Lib.hid hw
    have HWL := Lib.hid (show w.heap.size ≤ w2.heap.size + 1 by have := HGL.out; omega)
    have HWB := Lib.hid (show g < w2.heap.size + 1 ∧ g = w.heap.size from ⟨by have := HGL.out; omega, hg.symm⟩)
    clear hk4 hw HK2 HX2 HB2 HGL
    generalize w2.heap.size = wi at *
    have x21 : w4.cell? ⟨g, 21, none⟩ = some (.slice xtA xtn xtc) := HB4.out.cell 21
    have q21 : w4.frozen? ⟨wi + 1, 21, none⟩ = false := HW4.out.frozen 21
    have z21 := HW4.out.cell 21
    have hq : ((xtn : Int) == 1) = false := by simp; omega
    have hq2 : ¬ (xtn : Int) = 1 := by omega
    have hk := HKK.out
    have HRR := Lib.hid (show fitsI ⟨xop, xa, xb, xn, xv, xlA, xln, xlc, xtA, xtn, xtc, xbk, xbv, xbt, xbA, xbn, xbc, xeA, xen, xec⟩ L T imm = (xtn == 1 && isRefT (T.getD 0 0) && flatP (⟨xop, 0, 0, 0, fun _ => 0, none, 0, 0, xtA, xtn, xtc, 0, 0, 0, none, 0, 0, none, 0, 0⟩ : IC) [] T ⟨xop, xa, xb, xn, xv, xlA, xln, xlc, xtA, xtn, xtc, xbk, xbv, xbt, xbA, xbn, xbc, xeA, xen, xec⟩ L T && (0 : Nat) == xbn && (0 : Nat) == xen) from by rcases hk with rfl <;> simp [fitsI, okP, restP, wantP, wantZ, Bool.and_assoc])
    subst hk
    have hxw : Blk (w4.setCell ⟨wi + 1, 21, none⟩ (.slice xtA xtn xtc)) g 70 #[.int .u16 (xop : Int), .int .u32 (xa : Int), .int .u32 (xb : Int), .int .u64 (xn : Int), .int .u8 ((xv 0).toNat : Int), .int .u8 ((xv 1).toNat : Int), .int .u8 ((xv 2).toNat : Int), .int .u8 ((xv 3).toNat : Int), .int .u8 ((xv 4).toNat : Int), .int .u8 ((xv 5).toNat : Int), .int .u8 ((xv 6).toNat : Int), .int .u8 ((xv 7).toNat : Int), .int .u8 ((xv 8).toNat : Int), .int .u8 ((xv 9).toNat : Int), .int .u8 ((xv 10).toNat : Int), .int .u8 ((xv 11).toNat : Int), .int .u8 ((xv 12).toNat : Int), .int .u8 ((xv 13).toNat : Int), .int .u8 ((xv 14).toNat : Int), .int .u8 ((xv 15).toNat : Int), .slice xlA xln xlc, .slice xtA xtn xtc, .int .u8 (xbk : Int), .int .u8 (xbv : Int), .int .u32 (xbt : Int), .slice xbA xbn xbc, .slice xeA xen xec] := Kept.blk ((Kept.refl (S1 (wi + 1)) w4).setCell (p := ⟨wi + 1, 21, none⟩) (.inl rfl) (.slice xtA xtn xtc)) HB4.out (fun e => by have e' : g = wi + 1 := e; have := HWB.out.1; omega)
    have xx21 : (w4.setCell ⟨wi + 1, 21, none⟩ (.slice xtA xtn xtc)).cell? ⟨g, 21, none⟩ = some (.slice xtA xtn xtc) := hxw.cell 21
    clear hxw
    have hok' : (xtn == 1 && isRefT (T.getD 0 0)) = false := by
      simp [h1]
    have h0 := HRR.out
    rw [hok'] at h0
    simp only [Bool.false_and] at h0
    have H0 := Lib.hid h0
    clear h0 hok'
    go_wp2_with fail
    go_ret
    exact ⟨ret_bool H0.out.symm, (HK4.out.setCell (p := ⟨wi + 1, 21, none⟩) (.inr HWL.out) (.slice xtA xtn xtc))⟩
end Go.Proofs.YtfmblalbcodpmaaDoor
namespace Go.Proofs.YtfmblalbcodpmaaDoor
open Go.RowKit
set_option maxRecDepth 100000 in
set_option maxHeartbeats 16000000 in
theorem fits_r1 (x : IC) (L T : List Nat) (w : World) (hx : InsC w x L T) (hle : ICle x) (hsp : SpTab w) (imm bits shp : Nat) (from_ to_ : List Nat) (hi : inf x.op = some (imm, bits, shp, from_, to_)) (h1 : x.tn = 1) (h2 : isRefT (T.getD 0 0) = false) (hk : imm = 25) :
    Calls Tryd.prog 53 #[.agg x.arr] w fun e w' => e = .returned (.bool (fitsI x L T imm)) ∧ Kept S0 w w' := by
  have hka : Kept S0 w (w.alloc (.cells x.arr 70)) := (Kept.refl S0 w).alloc _
  have hb1 : Blk (w.alloc (.cells x.arr 70)) w.heap.size 70 x.arr := Blk.new w _ _
  have HX := Lib.hid hx
  have HKA := Lib.hid hka
  have HSP := Lib.hid hsp
  have HO := Lib.hid (fun w' hs => of_any x.op w' hle.op hs)
  have hop := hle.op
  have HLE := Lib.hid hle
  have HI := Lib.hid hi
  have HKK := Lib.hid hk
  have H1 := Lib.hid h1
  clear hx hka hsp hle hi hk h1
  unfold IC.arr at *
  obtain ⟨xop, xa, xb, xn, xv, xlA, xln, xlc, xtA, xtn, xtc, xbk, xbv, xbt, xbA, xbn, xbc, xeA, xen, xec⟩ := x
  simp only at *
  obtain ⟨tb, tq, rfl, hcT⟩ : ∃ b o, xtA = some ⟨b, o, none⟩ ∧ ∀ i u, (T.map nV)[i]? = some u → w.cell? ⟨b, o + i, none⟩ = some u := HX.out.t.at (by have := H1.out; show 0 < xtn * 1; omega)
  have hlT : T.length = xtn := by have := HX.out.t.len; simpa using this
  have hT0 : w.cell? ⟨tb, tq, none⟩ = some (.int .u8 ((T.getD 0 0 : Nat) : Int)) := by
    have h9 := hcT 0 (nV (T.getD 0 0)) (by
      cases T with
      | nil => have := H1.out; simp at hlT; omega
      | cons a r => rfl)
    exact h9
  have HT0 := Lib.hid hT0
  clear hcT hlT hT0
  have HB1 := Lib.hid hb1
  have c0 : (w.alloc (.cells #[.int .u16 (xop : Int), .int .u32 (xa : Int), .int .u32 (xb : Int), .int .u64 (xn : Int), .int .u8 ((xv 0).toNat : Int), .int .u8 ((xv 1).toNat : Int), .int .u8 ((xv 2).toNat : Int), .int .u8 ((xv 3).toNat : Int), .int .u8 ((xv 4).toNat : Int), .int .u8 ((xv 5).toNat : Int), .int .u8 ((xv 6).toNat : Int), .int .u8 ((xv 7).toNat : Int), .int .u8 ((xv 8).toNat : Int), .int .u8 ((xv 9).toNat : Int), .int .u8 ((xv 10).toNat : Int), .int .u8 ((xv 11).toNat : Int), .int .u8 ((xv 12).toNat : Int), .int .u8 ((xv 13).toNat : Int), .int .u8 ((xv 14).toNat : Int), .int .u8 ((xv 15).toNat : Int), .slice xlA xln xlc, .slice (some ⟨tb, tq, none⟩) xtn xtc, .int .u8 (xbk : Int), .int .u8 (xbv : Int), .int .u32 (xbt : Int), .slice xbA xbn xbc, .slice xeA xen xec] 70)).cell? ⟨w.heap.size, 0, none⟩ = some (.int .u16 (xop : Int)) := hb1.cell 0
  clear hb1
  go_enter Tryd.func53, Tryd.ntmps53
  go_wp2_with fail
  generalize (w.alloc (.cells #[.int .u16 (xop : Int), .int .u32 (xa : Int), .int .u32 (xb : Int), .int .u64 (xn : Int), .int .u8 ((xv 0).toNat : Int), .int .u8 ((xv 1).toNat : Int), .int .u8 ((xv 2).toNat : Int), .int .u8 ((xv 3).toNat : Int), .int .u8 ((xv 4).toNat : Int), .int .u8 ((xv 5).toNat : Int), .int .u8 ((xv 6).toNat : Int), .int .u8 ((xv 7).toNat : Int), .int .u8 ((xv 8).toNat : Int), .int .u8 ((xv 9).toNat : Int), .int .u8 ((xv 10).toNat : Int), .int .u8 ((xv 11).toNat : Int), .int .u8 ((xv 12).toNat : Int), .int .u8 ((xv 13).toNat : Int), .int .u8 ((xv 14).toNat : Int), .int .u8 ((xv 15).toNat : Int), .slice xlA xln xlc, .slice (some ⟨tb, tq, none⟩) xtn xtc, .int .u8 (xbk : Int), .int .u8 (xbv : Int), .int .u32 (xbt : Int), .slice xbA xbn xbc, .slice xeA xen xec] 70)) = w1 at *
  have HSZ := Lib.hid (show w.heap.size < w1.heap.size from HB1.out.lt)
  generalize hg : w.heap.size = g at *
  refine (HO.out w1 (HSP.out.kept0 HKA.out)).mono ?_
  rintro e w2 ⟨hk2, ⟨hi, rfl⟩ | ⟨i, name, plain, vf, vt, hi, rfl, hinf⟩⟩
  · rw [HI.out] at hi
    cases hi
  · rw [HI.out] at hi
    obtain rfl := Option.some.inj hi
    obtain ⟨Af, cf, rfl, _⟩ := hinf.from_.out
    obtain ⟨At, ct, rfl, _⟩ := hinf.to_.out
    simp only
    have HK2 := Lib.hid (HKA.out.then0 hk2)
    have HX2 := Lib.hid (HX.out.kept0 (HKA.out.then0 hk2))
    have hb2 := hk2.blk HB1.out (fun x => x)
    have HB2 := Lib.hid hb2
    generalize from_.length = nf at *
    generalize to_.length = nt at *
    have c2 : (w2.alloc (.cells #[.int .u16 (xop : Int), .string name, .int .u8 (imm : Int), .slice Af nf cf, .slice At nt ct, .int .i64 (bits : Int), .bool plain] 129)).cell? ⟨g, 0, none⟩ = some (.int .u16 (xop : Int)) := (hb2.alloc _).cell 0
    have HGL := Lib.hid (show g < w2.heap.size from hb2.lt)
    clear hk2 c0 hinf hb2 hi HO
    have hz3 : Blk ((w2.alloc (.cells #[.int .u16 (xop : Int), .string name, .int .u8 (imm : Int), .slice Af nf cf, .slice At nt ct, .int .i64 (bits : Int), .bool plain] 129)).alloc (.cells #[.int .u16 0, .int .u32 0, .int .u32 0, .int .u64 0, .int .u8 0, .int .u8 0, .int .u8 0, .int .u8 0, .int .u8 0, .int .u8 0, .int .u8 0, .int .u8 0, .int .u8 0, .int .u8 0, .int .u8 0, .int .u8 0, .int .u8 0, .int .u8 0, .int .u8 0, .int .u8 0, .slice none 0 0, .slice none 0 0, .int .u8 0, .int .u8 0, .int .u32 0, .slice none 0 0, .slice none 0 0] 70)) (w2.heap.size + 1) 70 #[.int .u16 0, .int .u32 0, .int .u32 0, .int .u64 0, .int .u8 0, .int .u8 0, .int .u8 0, .int .u8 0, .int .u8 0, .int .u8 0, .int .u8 0, .int .u8 0, .int .u8 0, .int .u8 0, .int .u8 0, .int .u8 0, .int .u8 0, .int .u8 0, .int .u8 0, .int .u8 0, .slice none 0 0, .slice none 0 0, .int .u8 0, .int .u8 0, .int .u32 0, .slice none 0 0, .slice none 0 0] := Blk.new1 w2 _ _ _
    have hz4 := hz3
    unfold Blk at hz4
    go_upto_region 5 with (refine wpList_store_row rfl 70 _ _ rfl (w2.heap.size + 1) #[.int .u16 (xop : Int), .int .u32 0, .int .u32 0, .int .u64 0, .int .u8 0, .int .u8 0, .int .u8 0, .int .u8 0, .int .u8 0, .int .u8 0, .int .u8 0, .int .u8 0, .int .u8 0, .int .u8 0, .int .u8 0, .int .u8 0, .int .u8 0, .int .u8 0, .int .u8 0, .int .u8 0, .slice none 0 0, .slice none 0 0, .int .u8 0, .int .u8 0, .int .u32 0, .slice none 0 0, .slice none 0 0] rfl rfl 70 #[.int .u16 0, .int .u32 0, .int .u32 0, .int .u64 0, .int .u8 0, .int .u8 0, .int .u8 0, .int .u8 0, .int .u8 0, .int .u8 0, .int .u8 0, .int .u8 0, .int .u8 0, .int .u8 0, .int .u8 0, .int .u8 0, .int .u8 0, .int .u8 0, .int .u8 0, .int .u8 0, .slice none 0 0, .slice none 0 0, .int .u8 0, .int .u8 0, .int .u32 0, .slice none 0 0, .slice none 0 0] hz4 (by kernel_rfl) rfl (by kernel_rfl) ?_)
    have hw4 : ∃ w4, w4 = (((w2.alloc (.cells #[.int .u16 (xop : Int), .string name, .int .u8 (imm : Int), .slice Af nf cf, .slice At nt ct, .int .i64 (bits : Int), .bool plain] 129)).alloc (.cells #[.int .u16 0, .int .u32 0, .int .u32 0, .int .u64 0, .int .u8 0, .int .u8 0, .int .u8 0, .int .u8 0, .int .u8 0, .int .u8 0, .int .u8 0, .int .u8 0, .int .u8 0, .int .u8 0, .int .u8 0, .int .u8 0, .int .u8 0, .int .u8 0, .int .u8 0, .int .u8 0, .slice none 0 0, .slice none 0 0, .int .u8 0, .int .u8 0, .int .u32 0, .slice none 0 0, .slice none 0 0] 70)).setRow (w2.heap.size + 1) #[.int .u16 (xop : Int), .int .u32 0, .int .u32 0, .int .u64 0, .int .u8 0, .int .u8 0, .int .u8 0, .int .u8 0, .int .u8 0, .int .u8 0, .int .u8 0, .int .u8 0, .int .u8 0, .int .u8 0, .int .u8 0, .int .u8 0, .int .u8 0, .int .u8 0, .int .u8 0, .int .u8 0, .slice none 0 0, .slice none 0 0, .int .u8 0, .int .u8 0, .int .u32 0, .slice none 0 0, .slice none 0 0]) := ⟨_, rfl⟩
    obtain ⟨w4, hw4⟩ := hw4
    have hk4 : Kept S0 w2 w4 := by rw [hw4]; exact (((Kept.refl S0 w2).alloc _).alloc _).setRow (.inr (Nat.le_succ _)) _
    have hw : Blk w4 (w2.heap.size + 1) 70 #[.int .u16 (xop : Int), .int .u32 0, .int .u32 0, .int .u64 0, .int .u8 0, .int .u8 0, .int .u8 0, .int .u8 0, .int .u8 0, .int .u8 0, .int .u8 0, .int .u8 0, .int .u8 0, .int .u8 0, .int .u8 0, .int .u8 0, .int .u8 0, .int .u8 0, .int .u8 0, .int .u8 0, .slice none 0 0, .slice none 0 0, .int .u8 0, .int .u8 0, .int .u32 0, .slice none 0 0, .slice none 0 0] := by rw [hw4]; exact hz3.setRow _
    have hinfo : w4.cell? ⟨w2.heap.size, 2, none⟩ = some (.int .u8 (imm : Int)) := by
      rw [hw4]
      exact ((((Blk.new w2 129 #[.int .u16 (xop : Int), .string name, .int .u8 (imm : Int), .slice Af nf cf, .slice At nt ct, .int .i64 (bits : Int), .bool plain]).alloc _).setRowFar (by omega) _).cell 2)
    rw [← hw4]
    clear hw4 c2 hz3 hz4
    have HK4 := Lib.hid (HK2.out.then0 hk4)
    have HX4 := Lib.hid (HX2.out.kept0 hk4)
    have HB4 := Lib.hid (hk4.blk HB2.out (fun x => x))
    have HW4 := Lib.hid hw
    have HWL := Lib.hid (show w.heap.size ≤ w2.heap.size + 1 by have := HGL.out; omega)
    have HWB := Lib.hid (show g < w2.heap.size + 1 ∧ g = w.heap.size from ⟨by have := HGL.out; omega, hg.symm⟩)
    clear hk4 hw HK2 HX2 HB2 HGL
    generalize w2.heap.size = wi at *
    have x21 : w4.cell? ⟨g, 21, none⟩ = some (.slice (some ⟨tb, tq, none⟩) xtn xtc) := HB4.out.cell 21
    have q21 : w4.frozen? ⟨wi + 1, 21, none⟩ = false := HW4.out.frozen 21
    have z21 := HW4.out.cell 21
    have hq : ((xtn : Int) == 1) = true := by have := H1.out; simp; omega
    have hq3 : (0 : Int) < (xtn : Int) := by have := H1.out; omega
    have hqn : 0 < xtn := by have := H1.out; omega
    have h2' := h2
    have hk := HKK.out
    have HRR := Lib.hid (show fitsI ⟨xop, xa, xb, xn, xv, xlA, xln, xlc, (some ⟨tb, tq, none⟩), xtn, xtc, xbk, xbv, xbt, xbA, xbn, xbc, xeA, xen, xec⟩ L T imm = (xtn == 1 && isRefT (T.getD 0 0) && flatP (⟨xop, 0, 0, 0, fun _ => 0, none, 0, 0, (some ⟨tb, tq, none⟩), xtn, xtc, 0, 0, 0, none, 0, 0, none, 0, 0⟩ : IC) [] T ⟨xop, xa, xb, xn, xv, xlA, xln, xlc, (some ⟨tb, tq, none⟩), xtn, xtc, xbk, xbv, xbt, xbA, xbn, xbc, xeA, xen, xec⟩ L T && (0 : Nat) == xbn && (0 : Nat) == xen) from by rcases hk with rfl <;> simp [fitsI, okP, restP, wantP, wantZ, Bool.and_assoc])
    subst hk
    have hxw : Blk (w4.setCell ⟨wi + 1, 21, none⟩ (.slice (some ⟨tb, tq, none⟩) xtn xtc)) g 70 #[.int .u16 (xop : Int), .int .u32 (xa : Int), .int .u32 (xb : Int), .int .u64 (xn : Int), .int .u8 ((xv 0).toNat : Int), .int .u8 ((xv 1).toNat : Int), .int .u8 ((xv 2).toNat : Int), .int .u8 ((xv 3).toNat : Int), .int .u8 ((xv 4).toNat : Int), .int .u8 ((xv 5).toNat : Int), .int .u8 ((xv 6).toNat : Int), .int .u8 ((xv 7).toNat : Int), .int .u8 ((xv 8).toNat : Int), .int .u8 ((xv 9).toNat : Int), .int .u8 ((xv 10).toNat : Int), .int .u8 ((xv 11).toNat : Int), .int .u8 ((xv 12).toNat : Int), .int .u8 ((xv 13).toNat : Int), .int .u8 ((xv 14).toNat : Int), .int .u8 ((xv 15).toNat : Int), .slice xlA xln xlc, .slice (some ⟨tb, tq, none⟩) xtn xtc, .int .u8 (xbk : Int), .int .u8 (xbv : Int), .int .u32 (xbt : Int), .slice xbA xbn xbc, .slice xeA xen xec] := Kept.blk ((Kept.refl (S1 (wi + 1)) w4).setCell (p := ⟨wi + 1, 21, none⟩) (.inl rfl) (.slice (some ⟨tb, tq, none⟩) xtn xtc)) HB4.out (fun e => by have e' : g = wi + 1 := e; have := HWB.out.1; omega)
    have xx21 : (w4.setCell ⟨wi + 1, 21, none⟩ (.slice (some ⟨tb, tq, none⟩) xtn xtc)).cell? ⟨g, 21, none⟩ = some (.slice (some ⟨tb, tq, none⟩) xtn xtc) := hxw.cell 21
    clear hxw
    have hok' : (xtn == 1 && isRefT (T.getD 0 0)) = false := by
      rw [h2]; simp
    have h0 := HRR.out
    rw [hok'] at h0
    simp only [Bool.false_and] at h0
    have H0 := Lib.hid h0
    clear h0 hok'
    have ct : (w4.setCell ⟨wi + 1, 21, none⟩ (.slice (some ⟨tb, tq, none⟩) xtn xtc)).cell? ⟨tb, tq, none⟩ = some (.int .u8 ((T.getD 0 0 : Nat) : Int)) := (((HK4.out.setCell (p := ⟨wi + 1, 21, none⟩) (.inr HWL.out) (.slice (some ⟨tb, tq, none⟩) xtn xtc))).cell (p := ⟨tb, tq, none⟩) (World.block_lt_of_cell? _ _ HT0.out) (fun x => x)).trans HT0.out
    have HRF := Lib.hid (fun w => isref_any (T.getD 0 0) w)
    generalize T.getD 0 0 = t0 at *
    rw [h2'] at HRF
    clear h2 h2'
    go_wp2_with (go_at_call 79; refine (HRF.out _).mono ?_; rintro e w' ⟨rfl, rfl⟩)
    all_goals
      go_ret
      exact ⟨ret_bool H0.out.symm, (HK4.out.setCell (p := ⟨wi + 1, 21, none⟩) (.inr HWL.out) (.slice (some ⟨tb, tq, none⟩) xtn xtc))⟩
end Go.Proofs.YtfmblalbcodpmaaDoor
