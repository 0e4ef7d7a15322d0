/- What the proofs lean on, part 5 of Do. No condition. -/
import Derived.Test.YtfmblalbcodpmaaDoorMDoa
import Derived.Test.YtfmblalbcodpmaaDoorMDob
import Derived.Test.YtfmblalbcodpmaaDoorMDoc
import Derived.Test.YtfmblalbcodpmaaDoorMDod
import Derived.BigQuiet
namespace Go.Proofs.YtfmblalbcodpmaaDoor
open Go.RowKit
set_option maxRecDepth 100000 in
set_option maxHeartbeats 16000000 in
theorem fits_b (x : IC) (L T : List Nat) (w : World) (hx : InsC w x L T) (hle : ICle x) (hsp : SpTab w) (imm bits shp : Nat) (from_ to_ : List Nat) (hi : inf x.op = some (imm, bits, shp, from_, to_)) (hk : imm = 8 ∨ imm = 10 ∨ imm = 12 ∨ imm = 13) :
    Calls Tryd.prog 53 #[.agg x.arr] w fun e w' => e = .returned (.bool (fitsI x L T imm)) ∧ Kept S0 w w' := by
  have hka : Kept S0 w (w.alloc (.cells x.arr 70)) := (Kept.refl S0 w).alloc _
  have hb1 : Blk (w.alloc (.cells x.arr 70)) w.heap.size 70 x.arr := Blk.new w _ _
  have HX := Lib.hid hx
  have HKA := Lib.hid hka
  have HSP := Lib.hid hsp
  have HO := Lib.hid (fun w' hs => of_any x.op w' hle.op hs)
  have hop := hle.op
  have HLE := Lib.hid hle
  have HI := Lib.hid hi
  have HKK := Lib.hid hk
  clear hx hka hsp hle hi hk
  unfold IC.arr at *
  obtain ⟨xop, xa, xb, xn, xv, xlA, xln, xlc, xtA, xtn, xtc, xbk, xbv, xbt, xbA, xbn, xbc, xeA, xen, xec⟩ := x
  simp only at *
  have HB1 := Lib.hid hb1
  have c0 : (w.alloc (.cells #[.int .u16 (xop : Int), .int .u32 (xa : Int), .int .u32 (xb : Int), .int .u64 (xn : Int), .int .u8 ((xv 0).toNat : Int), .int .u8 ((xv 1).toNat : Int), .int .u8 ((xv 2).toNat : Int), .int .u8 ((xv 3).toNat : Int), .int .u8 ((xv 4).toNat : Int), .int .u8 ((xv 5).toNat : Int), .int .u8 ((xv 6).toNat : Int), .int .u8 ((xv 7).toNat : Int), .int .u8 ((xv 8).toNat : Int), .int .u8 ((xv 9).toNat : Int), .int .u8 ((xv 10).toNat : Int), .int .u8 ((xv 11).toNat : Int), .int .u8 ((xv 12).toNat : Int), .int .u8 ((xv 13).toNat : Int), .int .u8 ((xv 14).toNat : Int), .int .u8 ((xv 15).toNat : Int), .slice xlA xln xlc, .slice xtA xtn xtc, .int .u8 (xbk : Int), .int .u8 (xbv : Int), .int .u32 (xbt : Int), .slice xbA xbn xbc, .slice xeA xen xec] 70)).cell? ⟨w.heap.size, 0, none⟩ = some (.int .u16 (xop : Int)) := hb1.cell 0
  clear hb1
  go_enter Tryd.func53, Tryd.ntmps53
  go_wp2_with fail
  generalize (w.alloc (.cells #[.int .u16 (xop : Int), .int .u32 (xa : Int), .int .u32 (xb : Int), .int .u64 (xn : Int), .int .u8 ((xv 0).toNat : Int), .int .u8 ((xv 1).toNat : Int), .int .u8 ((xv 2).toNat : Int), .int .u8 ((xv 3).toNat : Int), .int .u8 ((xv 4).toNat : Int), .int .u8 ((xv 5).toNat : Int), .int .u8 ((xv 6).toNat : Int), .int .u8 ((xv 7).toNat : Int), .int .u8 ((xv 8).toNat : Int), .int .u8 ((xv 9).toNat : Int), .int .u8 ((xv 10).toNat : Int), .int .u8 ((xv 11).toNat : Int), .int .u8 ((xv 12).toNat : Int), .int .u8 ((xv 13).toNat : Int), .int .u8 ((xv 14).toNat : Int), .int .u8 ((xv 15).toNat : Int), .slice xlA xln xlc, .slice xtA xtn xtc, .int .u8 (xbk : Int), .int .u8 (xbv : Int), .int .u32 (xbt : Int), .slice xbA xbn xbc, .slice xeA xen xec] 70)) = w1 at *
  have HSZ := Lib.hid (show w.heap.size < w1.heap.size from HB1.out.lt)
  generalize hg : w.heap.size = g at *
  refine (HO.out w1 (HSP.out.kept0 HKA.out)).mono ?_
  rintro e w2 ⟨hk2, ⟨hi, rfl⟩ | ⟨i, name, plain, vf, vt, hi, rfl, hinf⟩⟩
  · rw [HI.out] at hi
    cases hi
  · rw [HI.out] at hi
    obtain rfl := Option.some.inj hi
    obtain ⟨Af, cf, rfl, _⟩ := hinf.from_.out
    obtain ⟨At, ct, rfl, _⟩ := hinf.to_.out
    simp only
    have HK2 := Lib.hid (HKA.out.then0 hk2)
    have HX2 := Lib.hid (HX.out.kept0 (HKA.out.then0 hk2))
    have hb2 := hk2.blk HB1.out (fun x => x)
    have HB2 := Lib.hid hb2
    generalize from_.length = nf at *
    generalize to_.length = nt at *
    have c2 : (w2.alloc (.cells #[.int .u16 (xop : Int), .string name, .int .u8 (imm : Int), .slice Af nf cf, .slice At nt ct, .int .i64 (bits : Int), .bool plain] 129)).cell? ⟨g, 0, none⟩ = some (.int .u16 (xop : Int)) := (hb2.alloc _).cell 0
    have HGL := Lib.hid (show g < w2.heap.size from hb2.lt)
    clear hk2 c0 hinf hb2 hi HO
    have hz3 : Blk ((w2.alloc (.cells #[.int .u16 (xop : Int), .string name, .int .u8 (imm : Int), .slice Af nf cf, .slice At nt ct, .int .i64 (bits : Int), .bool plain] 129)).alloc (.cells #[.int .u16 0, .int .u32 0, .int .u32 0, .int .u64 0, .int .u8 0, .int .u8 0, .int .u8 0, .int .u8 0, .int .u8 0, .int .u8 0, .int .u8 0, .int .u8 0, .int .u8 0, .int .u8 0, .int .u8 0, .int .u8 0, .int .u8 0, .int .u8 0, .int .u8 0, .int .u8 0, .slice none 0 0, .slice none 0 0, .int .u8 0, .int .u8 0, .int .u32 0, .slice none 0 0, .slice none 0 0] 70)) (w2.heap.size + 1) 70 #[.int .u16 0, .int .u32 0, .int .u32 0, .int .u64 0, .int .u8 0, .int .u8 0, .int .u8 0, .int .u8 0, .int .u8 0, .int .u8 0, .int .u8 0, .int .u8 0, .int .u8 0, .int .u8 0, .int .u8 0, .int .u8 0, .int .u8 0, .int .u8 0, .int .u8 0, .int .u8 0, .slice none 0 0, .slice none 0 0, .int .u8 0, .int .u8 0, .int .u32 0, .slice none 0 0, .slice none 0 0] := Blk.new1 w2 _ _ _
    have hz4 := hz3
    unfold Blk at hz4
    go_upto_region 5 with (refine wpList_store_row rfl 70 _ _ rfl (w2.heap.size + 1) #[.int .u16 (xop : Int), .int .u32 0, .int .u32 0, .int .u64 0, .int .u8 0, .int .u8 0, .int .u8 0, .int .u8 0, .int .u8 0, .int .u8 0, .int .u8 0, .int .u8 0, .int .u8 0, .int .u8 0, .int .u8 0, .int .u8 0, .int .u8 0, .int .u8 0, .int .u8 0, .int .u8 0, .slice none 0 0, .slice none 0 0, .int .u8 0, .int .u8 0, .int .u32 0, .slice none 0 0, .slice none 0 0] rfl rfl 70 #[.int .u16 0, .int .u32 0, .int .u32 0, .int .u64 0, .int .u8 0, .int .u8 0, .int .u8 0, .int .u8 0, .int .u8 0, .int .u8 0, .int .u8 0, .int .u8 0, .int .u8 0, .int .u8 0, .int .u8 0, .int .u8 0, .int .u8 0, .int .u8 0, .int .u8 0, .int .u8 0, .slice none 0 0, .slice none 0 0, .int .u8 0, .int .u8 0, .int .u32 0, .slice none 0 0, .slice none 0 0] hz4 (by kernel_rfl) rfl (by kernel_rfl) ?_)
    have hw4 : ∃ w4, w4 = (((w2.alloc (.cells #[.int .u16 (xop : Int), .string name, .int .u8 (imm : Int), .slice Af nf cf, .slice At nt ct, .int .i64 (bits : Int), .bool plain] 129)).alloc (.cells #[.int .u16 0, .int .u32 0, .int .u32 0, .int .u64 0, .int .u8 0, .int .u8 0, .int .u8 0, .int .u8 0, .int .u8 0, .int .u8 0, .int .u8 0, .int .u8 0, .int .u8 0, .int .u8 0, .int .u8 0, .int .u8 0, .int .u8 0, .int .u8 0, .int .u8 0, .int .u8 0, .slice none 0 0, .slice none 0 0, .int .u8 0, .int .u8 0, .int .u32 0, .slice none 0 0, .slice none 0 0] 70)).setRow (w2.heap.size + 1) #[.int .u16 (xop : Int), .int .u32 0, .int .u32 0, .int .u64 0, .int .u8 0, .int .u8 0, .int .u8 0, .int .u8 0, .int .u8 0, .int .u8 0, .int .u8 0, .int .u8 0, .int .u8 0, .int .u8 0, .int .u8 0, .int .u8 0, .int .u8 0, .int .u8 0, .int .u8 0, .int .u8 0, .slice none 0 0, .slice none 0 0, .int .u8 0, .int .u8 0, .int .u32 0, .slice none 0 0, .slice none 0 0]) := ⟨_, rfl⟩
    obtain ⟨w4, hw4⟩ := hw4
    have hk4 : Kept S0 w2 w4 := by rw [hw4]; exact (((Kept.refl S0 w2).alloc _).alloc _).setRow (.inr (Nat.le_succ _)) _
    have hw : Blk w4 (w2.heap.size + 1) 70 #[.int .u16 (xop : Int), .int .u32 0, .int .u32 0, .int .u64 0, .int .u8 0, .int .u8 0, .int .u8 0, .int .u8 0, .int .u8 0, .int .u8 0, .int .u8 0, .int .u8 0, .int .u8 0, .int .u8 0, .int .u8 0, .int .u8 0, .int .u8 0, .int .u8 0, .int .u8 0, .int .u8 0, .slice none 0 0, .slice none 0 0, .int .u8 0, .int .u8 0, .int .u32 0, .slice none 0 0, .slice none 0 0] := by rw [hw4]; exact hz3.setRow _
    have hinfo : w4.cell? ⟨w2.heap.size, 2, none⟩ = some (.int .u8 (imm : Int)) := by
      rw [hw4]
      exact ((((Blk.new w2 129 #[.int .u16 (xop : Int), .string name, .int .u8 (imm : Int), .slice Af nf cf, .slice At nt ct, .int .i64 (bits : Int), .bool plain]).alloc _).setRowFar (by omega) _).cell 2)
    rw [← hw4]
    clear hw4 c2 hz3 hz4
    have HK4 := Lib.hid (HK2.out.then0 hk4)
    have HX4 := Lib.hid (HX2.out.kept0 hk4)
    have HB4 := Lib.hid (hk4.blk HB2.out (fun x => x))
    have HW4 := Lib.hid hw
    have HWL := Lib.hid (show w.heap.size ≤ w2.heap.size + 1 by have := HGL.out; omega)
    have HWB := Lib.hid (show g < w2.heap.size + 1 ∧ g = w.heap.size from ⟨by have := HGL.out; omega, hg.symm⟩)
    clear hk4 hw HK2 HX2 HB2 HGL
    generalize w2.heap.size = wi at *
    have x1 : w4.cell? ⟨g, 1, none⟩ = some (.int .u32 (xa : Int)) := HB4.out.cell 1
    have q1 : w4.frozen? ⟨wi + 1, 1, none⟩ = false := HW4.out.frozen 1
    have z1 := HW4.out.cell 1
    have hk := HKK.out
    have HRR := Lib.hid (show fitsI ⟨xop, xa, xb, xn, xv, xlA, xln, xlc, xtA, xtn, xtc, xbk, xbv, xbt, xbA, xbn, xbc, xeA, xen, xec⟩ L T imm = (flatP (⟨xop, xa, 0, 0, fun _ => 0, none, 0, 0, none, 0, 0, 0, 0, 0, none, 0, 0, none, 0, 0⟩ : IC) [] [] ⟨xop, xa, xb, xn, xv, xlA, xln, xlc, xtA, xtn, xtc, xbk, xbv, xbt, xbA, xbn, xbc, xeA, xen, xec⟩ L T && (0 : Nat) == xbn && (0 : Nat) == xen) from by rcases hk with rfl | rfl | rfl | rfl <;> simp [fitsI, okP, restP, wantP, wantZ])
    rcases hk with rfl | rfl | rfl | rfl
    all_goals
      go_upto_region 52 with fail
      have hwf : Blk (w4.setCell ⟨wi + 1, 1, none⟩ (.int .u32 (xa : Int))) (wi + 1) 70 #[.int .u16 (xop : Int), .int .u32 (xa : Int), .int .u32 0, .int .u64 0, .int .u8 0, .int .u8 0, .int .u8 0, .int .u8 0, .int .u8 0, .int .u8 0, .int .u8 0, .int .u8 0, .int .u8 0, .int .u8 0, .int .u8 0, .int .u8 0, .int .u8 0, .int .u8 0, .int .u8 0, .int .u8 0, .slice none 0 0, .slice none 0 0, .int .u8 0, .int .u8 0, .int .u32 0, .slice none 0 0, .slice none 0 0] := (HW4.out.set_ 1 (.int .u32 (xa : Int)))
      have hkf : Kept S0 w (w4.setCell ⟨wi + 1, 1, none⟩ (.int .u32 (xa : Int))) := (HK4.out.setCell (p := ⟨wi + 1, 1, none⟩) (.inr HWL.out) (.int .u32 (xa : Int)))
      have hk1 : Kept (S1 (wi + 1)) w4 (w4.setCell ⟨wi + 1, 1, none⟩ (.int .u32 (xa : Int))) := ((Kept.refl (S1 (wi + 1)) w4).setCell (p := ⟨wi + 1, 1, none⟩) (.inl rfl) (.int .u32 (xa : Int)))
      have hxf : Blk (w4.setCell ⟨wi + 1, 1, none⟩ (.int .u32 (xa : Int))) g 70 #[.int .u16 (xop : Int), .int .u32 (xa : Int), .int .u32 (xb : Int), .int .u64 (xn : Int), .int .u8 ((xv 0).toNat : Int), .int .u8 ((xv 1).toNat : Int), .int .u8 ((xv 2).toNat : Int), .int .u8 ((xv 3).toNat : Int), .int .u8 ((xv 4).toNat : Int), .int .u8 ((xv 5).toNat : Int), .int .u8 ((xv 6).toNat : Int), .int .u8 ((xv 7).toNat : Int), .int .u8 ((xv 8).toNat : Int), .int .u8 ((xv 9).toNat : Int), .int .u8 ((xv 10).toNat : Int), .int .u8 ((xv 11).toNat : Int), .int .u8 ((xv 12).toNat : Int), .int .u8 ((xv 13).toNat : Int), .int .u8 ((xv 14).toNat : Int), .int .u8 ((xv 15).toNat : Int), .slice xlA xln xlc, .slice xtA xtn xtc, .int .u8 (xbk : Int), .int .u8 (xbv : Int), .int .u32 (xbt : Int), .slice xbA xbn xbc, .slice xeA xen xec] := hk1.blk HB4.out (fun e => by have e' : g = wi + 1 := e; have := HWB.out.1; omega)
      have hins : InsC (w4.setCell ⟨wi + 1, 1, none⟩ (.int .u32 (xa : Int))) ⟨xop, xa, xb, xn, xv, xlA, xln, xlc, xtA, xtn, xtc, xbk, xbv, xbt, xbA, xbn, xbc, xeA, xen, xec⟩ L T := HX.out.kept0 hkf
      have HINS := Lib.hid hins
      have HXF := Lib.hid hxf
      have HWF := Lib.hid hwf
      have HKF := Lib.hid hkf
      clear hxf hwf hkf hk1 hins
      generalize hwz : (w4.setCell ⟨wi + 1, 1, none⟩ (.int .u32 (xa : Int))) = w5 at *
      clear hwz
      have HF := Lib.hid (flat_any (⟨xop, xa, 0, 0, fun _ => 0, none, 0, 0, none, 0, 0, 0, 0, 0, none, 0, 0, none, 0, 0⟩ : IC) ⟨xop, xa, xb, xn, xv, xlA, xln, xlc, xtA, xtn, xtc, xbk, xbv, xbt, xbA, xbn, xbc, xeA, xen, xec⟩ [] [] L T w5 ⟨SlL.zero _ 1, SlL.zero _ 1⟩ HINS.out ⟨Nat.zero_le _, Nat.zero_le _, HLE.out.ln, HLE.out.tn⟩)
      generalize flatP (⟨xop, xa, 0, 0, fun _ => 0, none, 0, 0, none, 0, 0, 0, 0, 0, none, 0, 0, none, 0, 0⟩ : IC) [] [] ⟨xop, xa, xb, xn, xv, xlA, xln, xlc, xtA, xtn, xtc, xbk, xbv, xbt, xbA, xbn, xbc, xeA, xen, xec⟩ L T = fb at *
      have e1 : IC.arr (⟨xop, xa, 0, 0, fun _ => 0, none, 0, 0, none, 0, 0, 0, 0, 0, none, 0, 0, none, 0, 0⟩ : IC) = #[.int .u16 (xop : Int), .int .u32 (xa : Int), .int .u32 0, .int .u64 0, .int .u8 0, .int .u8 0, .int .u8 0, .int .u8 0, .int .u8 0, .int .u8 0, .int .u8 0, .int .u8 0, .int .u8 0, .int .u8 0, .int .u8 0, .int .u8 0, .int .u8 0, .int .u8 0, .int .u8 0, .int .u8 0, .slice none 0 0, .slice none 0 0, .int .u8 0, .int .u8 0, .int .u32 0, .slice none 0 0, .slice none 0 0] := by unfold IC.arr; rfl
      rw [e1] at HF
      clear e1
      unfold IC.arr at HF
      refine wp_region_list ?_
      refine wpList_load_row rfl 70 _ rfl (wi + 1) rfl 70 #[.int .u16 (xop : Int), .int .u32 (xa : Int), .int .u32 0, .int .u64 0, .int .u8 0, .int .u8 0, .int .u8 0, .int .u8 0, .int .u8 0, .int .u8 0, .int .u8 0, .int .u8 0, .int .u8 0, .int .u8 0, .int .u8 0, .int .u8 0, .int .u8 0, .int .u8 0, .int .u8 0, .int .u8 0, .slice none 0 0, .slice none 0 0, .int .u8 0, .int .u8 0, .int .u32 0, .slice none 0 0, .slice none 0 0] (0, 0) _ HWF.out Tryd.underlying70 rfl (by kernel_rfl) ?_
      refine wpList_load_row rfl 70 _ rfl g rfl 70 #[.int .u16 (xop : Int), .int .u32 (xa : Int), .int .u32 (xb : Int), .int .u64 (xn : Int), .int .u8 ((xv 0).toNat : Int), .int .u8 ((xv 1).toNat : Int), .int .u8 ((xv 2).toNat : Int), .int .u8 ((xv 3).toNat : Int), .int .u8 ((xv 4).toNat : Int), .int .u8 ((xv 5).toNat : Int), .int .u8 ((xv 6).toNat : Int), .int .u8 ((xv 7).toNat : Int), .int .u8 ((xv 8).toNat : Int), .int .u8 ((xv 9).toNat : Int), .int .u8 ((xv 10).toNat : Int), .int .u8 ((xv 11).toNat : Int), .int .u8 ((xv 12).toNat : Int), .int .u8 ((xv 13).toNat : Int), .int .u8 ((xv 14).toNat : Int), .int .u8 ((xv 15).toNat : Int), .slice xlA xln xlc, .slice xtA xtn xtc, .int .u8 (xbk : Int), .int .u8 (xbv : Int), .int .u32 (xbt : Int), .slice xbA xbn xbc, .slice xeA xen xec] (0, 0) _ HXF.out Tryd.underlying70 rfl (by kernel_rfl) ?_
      simp only [Act.put, List.setIfInBounds_toArray, List.set_cons_zero, List.set_cons_succ]
      go_wp2_with fail
      refine HF.out.mono ?_
      rintro e w6 ⟨rfl, hk6⟩
      have y8 : w6.cell? ⟨wi + 1, 25, none⟩ = some (.slice none 0 0) := (hk6.blk HWF.out (fun x => x)).cell 25
      have y9 : w6.cell? ⟨wi + 1, 26, none⟩ = some (.slice none 0 0) := (hk6.blk HWF.out (fun x => x)).cell 26
      have x8 : w6.cell? ⟨g, 25, none⟩ = some (.slice xbA xbn xbc) := (hk6.blk HXF.out (fun x => x)).cell 25
      have x9 : w6.cell? ⟨g, 26, none⟩ = some (.slice xeA xen xec) := (hk6.blk HXF.out (fun x => x)).cell 26
      have HKZ := Lib.hid (HKF.out.then0 hk6)
      have HQ := Lib.hid (show ∀ n : Nat, ((0 : Int) == (n : Int)) = ((0 : Nat) == n) from fun n => by rw [Bool.eq_iff_iff]; simp; omega)
      clear hk6
      cases fb with
      | false =>
        go_wp2_with fail
        go_ret
        exact ⟨ret_bool (by rw [HRR.out]; rfl), HKZ.out⟩
      | true =>
        go_wp2_with fail
        all_goals
          go_ret
          exact ⟨ret_bool (by rw [HRR.out, Bool.eq_iff_iff]; first | (simp; done) | (simp; omega)), HKZ.out⟩
end Go.Proofs.YtfmblalbcodpmaaDoor
namespace Go.Proofs.YtfmblalbcodpmaaDoor
open Go.RowKit
set_option maxRecDepth 100000 in
set_option maxHeartbeats 16000000 in
theorem fits_d (x : IC) (L T : List Nat) (w : World) (hx : InsC w x L T) (hle : ICle x) (hsp : SpTab w) (imm bits shp : Nat) (from_ to_ : List Nat) (hi : inf x.op = some (imm, bits, shp, from_, to_)) (hk : imm = 5 ∨ imm = 9 ∨ imm = 11) :
    Calls Tryd.prog 53 #[.agg x.arr] w fun e w' => e = .returned (.bool (fitsI x L T imm)) ∧ Kept S0 w w' := by
  have hka : Kept S0 w (w.alloc (.cells x.arr 70)) := (Kept.refl S0 w).alloc _
  have hb1 : Blk (w.alloc (.cells x.arr 70)) w.heap.size 70 x.arr := Blk.new w _ _
  have HX := Lib.hid hx
  have HKA := Lib.hid hka
  have HSP := Lib.hid hsp
  have HO := Lib.hid (fun w' hs => of_any x.op w' hle.op hs)
  have hop := hle.op
  have HLE := Lib.hid hle
  have HI := Lib.hid hi
  have HKK := Lib.hid hk
  clear hx hka hsp hle hi hk
  unfold IC.arr at *
  obtain ⟨xop, xa, xb, xn, xv, xlA, xln, xlc, xtA, xtn, xtc, xbk, xbv, xbt, xbA, xbn, xbc, xeA, xen, xec⟩ := x
  simp only at *
  have HB1 := Lib.hid hb1
  have c0 : (w.alloc (.cells #[.int .u16 (xop : Int), .int .u32 (xa : Int), .int .u32 (xb : Int), .int .u64 (xn : Int), .int .u8 ((xv 0).toNat : Int), .int .u8 ((xv 1).toNat : Int), .int .u8 ((xv 2).toNat : Int), .int .u8 ((xv 3).toNat : Int), .int .u8 ((xv 4).toNat : Int), .int .u8 ((xv 5).toNat : Int), .int .u8 ((xv 6).toNat : Int), .int .u8 ((xv 7).toNat : Int), .int .u8 ((xv 8).toNat : Int), .int .u8 ((xv 9).toNat : Int), .int .u8 ((xv 10).toNat : Int), .int .u8 ((xv 11).toNat : Int), .int .u8 ((xv 12).toNat : Int), .int .u8 ((xv 13).toNat : Int), .int .u8 ((xv 14).toNat : Int), .int .u8 ((xv 15).toNat : Int), .slice xlA xln xlc, .slice xtA xtn xtc, .int .u8 (xbk : Int), .int .u8 (xbv : Int), .int .u32 (xbt : Int), .slice xbA xbn xbc, .slice xeA xen xec] 70)).cell? ⟨w.heap.size, 0, none⟩ = some (.int .u16 (xop : Int)) := hb1.cell 0
  clear hb1
  go_enter Tryd.func53, Tryd.ntmps53
  go_wp2_with fail
  generalize (w.alloc (.cells #[.int .u16 (xop : Int), .int .u32 (xa : Int), .int .u32 (xb : Int), .int .u64 (xn : Int), .int .u8 ((xv 0).toNat : Int), .int .u8 ((xv 1).toNat : Int), .int .u8 ((xv 2).toNat : Int), .int .u8 ((xv 3).toNat : Int), .int .u8 ((xv 4).toNat : Int), .int .u8 ((xv 5).toNat : Int), .int .u8 ((xv 6).toNat : Int), .int .u8 ((xv 7).toNat : Int), .int .u8 ((xv 8).toNat : Int), .int .u8 ((xv 9).toNat : Int), .int .u8 ((xv 10).toNat : Int), .int .u8 ((xv 11).toNat : Int), .int .u8 ((xv 12).toNat : Int), .int .u8 ((xv 13).toNat : Int), .int .u8 ((xv 14).toNat : Int), .int .u8 ((xv 15).toNat : Int), .slice xlA xln xlc, .slice xtA xtn xtc, .int .u8 (xbk : Int), .int .u8 (xbv : Int), .int .u32 (xbt : Int), .slice xbA xbn xbc, .slice xeA xen xec] 70)) = w1 at *
  have HSZ := Lib.hid (show w.heap.size < w1.heap.size from HB1.out.lt)
  generalize hg : w.heap.size = g at *
  refine (HO.out w1 (HSP.out.kept0 HKA.out)).mono ?_
  rintro e w2 ⟨hk2, ⟨hi, rfl⟩ | ⟨i, name, plain, vf, vt, hi, rfl, hinf⟩⟩
  · rw [HI.out] at hi
    cases hi
  · rw [HI.out] at hi
    obtain rfl := Option.some.inj hi
    obtain ⟨Af, cf, rfl, _⟩ := hinf.from_.out
    obtain ⟨At, ct, rfl, _⟩ := hinf.to_.out
    simp only
    have HK2 := Lib.hid (HKA.out.then0 hk2)
    have HX2 := Lib.hid (HX.out.kept0 (HKA.out.then0 hk2))
    have hb2 := hk2.blk HB1.out (fun x => x)
    have HB2 := Lib.hid hb2
    generalize from_.length = nf at *
    generalize to_.length = nt at *
    have c2 : (w2.alloc (.cells #[.int .u16 (xop : Int), .string name, .int .u8 (imm : Int), .slice Af nf cf, .slice At nt ct, .int .i64 (bits : Int), .bool plain] 129)).cell? ⟨g, 0, none⟩ = some (.int .u16 (xop : Int)) := (hb2.alloc _).cell 0
    have HGL := Lib.hid (show g < w2.heap.size from hb2.lt)
    clear hk2 c0 hinf hb2 hi HO
    have hz3 : Blk ((w2.alloc (.cells #[.int .u16 (xop : Int), .string name, .int .u8 (imm : Int), .slice Af nf cf, .slice At nt ct, .int .i64 (bits : Int), .bool plain] 129)).alloc (.cells #[.int .u16 0, .int .u32 0, .int .u32 0, .int .u64 0, .int .u8 0, .int .u8 0, .int .u8 0, .int .u8 0, .int .u8 0, .int .u8 0, .int .u8 0, .int .u8 0, .int .u8 0, .int .u8 0, .int .u8 0, .int .u8 0, .int .u8 0, .int .u8 0, .int .u8 0, .int .u8 0, .slice none 0 0, .slice none 0 0, .int .u8 0, .int .u8 0, .int .u32 0, .slice none 0 0, .slice none 0 0] 70)) (w2.heap.size + 1) 70 #[.int .u16 0, .int .u32 0, .int .u32 0, .int .u64 0, .int .u8 0, .int .u8 0, .int .u8 0, .int .u8 0, .int .u8 0, .int .u8 0, .int .u8 0, .int .u8 0, .int .u8 0, .int .u8 0, .int .u8 0, .int .u8 0, .int .u8 0, .int .u8 0, .int .u8 0, .int .u8 0, .slice none 0 0, .slice none 0 0, .int .u8 0, .int .u8 0, .int .u32 0, .slice none 0 0, .slice none 0 0] := Blk.new1 w2 _ _ _
    have hz4 := hz3
    unfold Blk at hz4
    go_upto_region 5 with (refine wpList_store_row rfl 70 _ _ rfl (w2.heap.size + 1) #[.int .u16 (xop : Int), .int .u32 0, .int .u32 0, .int .u64 0, .int .u8 0, .int .u8 0, .int .u8 0, .int .u8 0, .int .u8 0, .int .u8 0, .int .u8 0, .int .u8 0, .int .u8 0, .int .u8 0, .int .u8 0, .int .u8 0, .int .u8 0, .int .u8 0, .int .u8 0, .int .u8 0, .slice none 0 0, .slice none 0 0, .int .u8 0, .int .u8 0, .int .u32 0, .slice none 0 0, .slice none 0 0] rfl rfl 70 #[.int .u16 0, .int .u32 0, .int .u32 0, .int .u64 0, .int .u8 0, .int .u8 0, .int .u8 0, .int .u8 0, .int .u8 0, .int .u8 0, .int .u8 0, .int .u8 0, .int .u8 0, .int .u8 0, .int .u8 0, .int .u8 0, .int .u8 0, .int .u8 0, .int .u8 0, .int .u8 0, .slice none 0 0, .slice none 0 0, .int .u8 0, .int .u8 0, .int .u32 0, .slice none 0 0, .slice none 0 0] hz4 (by kernel_rfl) rfl (by kernel_rfl) ?_)
    have hw4 : ∃ w4, w4 = (((w2.alloc (.cells #[.int .u16 (xop : Int), .string name, .int .u8 (imm : Int), .slice Af nf cf, .slice At nt ct, .int .i64 (bits : Int), .bool plain] 129)).alloc (.cells #[.int .u16 0, .int .u32 0, .int .u32 0, .int .u64 0, .int .u8 0, .int .u8 0, .int .u8 0, .int .u8 0, .int .u8 0, .int .u8 0, .int .u8 0, .int .u8 0, .int .u8 0, .int .u8 0, .int .u8 0, .int .u8 0, .int .u8 0, .int .u8 0, .int .u8 0, .int .u8 0, .slice none 0 0, .slice none 0 0, .int .u8 0, .int .u8 0, .int .u32 0, .slice none 0 0, .slice none 0 0] 70)).setRow (w2.heap.size + 1) #[.int .u16 (xop : Int), .int .u32 0, .int .u32 0, .int .u64 0, .int .u8 0, .int .u8 0, .int .u8 0, .int .u8 0, .int .u8 0, .int .u8 0, .int .u8 0, .int .u8 0, .int .u8 0, .int .u8 0, .int .u8 0, .int .u8 0, .int .u8 0, .int .u8 0, .int .u8 0, .int .u8 0, .slice none 0 0, .slice none 0 0, .int .u8 0, .int .u8 0, .int .u32 0, .slice none 0 0, .slice none 0 0]) := ⟨_, rfl⟩
    obtain ⟨w4, hw4⟩ := hw4
    have hk4 : Kept S0 w2 w4 := by rw [hw4]; exact (((Kept.refl S0 w2).alloc _).alloc _).setRow (.inr (Nat.le_succ _)) _
    have hw : Blk w4 (w2.heap.size + 1) 70 #[.int .u16 (xop : Int), .int .u32 0, .int .u32 0, .int .u64 0, .int .u8 0, .int .u8 0, .int .u8 0, .int .u8 0, .int .u8 0, .int .u8 0, .int .u8 0, .int .u8 0, .int .u8 0, .int .u8 0, .int .u8 0, .int .u8 0, .int .u8 0, .int .u8 0, .int .u8 0, .int .u8 0, .slice none 0 0, .slice none 0 0, .int .u8 0, .int .u8 0, .int .u32 0, .slice none 0 0, .slice none 0 0] := by rw [hw4]; exact hz3.setRow _
    have hinfo : w4.cell? ⟨w2.heap.size, 2, none⟩ = some (.int .u8 (imm : Int)) := by
      rw [hw4]
      exact ((((Blk.new w2 129 #[.int .u16 (xop : Int), .string name, .int .u8 (imm : Int), .slice Af nf cf, .slice At nt ct, .int .i64 (bits : Int), .bool plain]).alloc _).setRowFar (by omega) _).cell 2)
    rw [← hw4]
    clear hw4 c2 hz3 hz4
    have HK4 := Lib.hid (HK2.out.then0 hk4)
    have HX4 := Lib.hid (HX2.out.kept0 hk4)
    have HB4 := Lib.hid (hk4.blk HB2.out (fun x => x))
    have HW4 := Lib.hid hw
    have HWL := Lib.hid (show w.heap.size ≤ w2.heap.size + 1 by have := HGL.out; omega)
    have HWB := Lib.hid (show g < w2.heap.size + 1 ∧ g = w.heap.size from ⟨by have := HGL.out; omega, hg.symm⟩)
    clear hk4 hw HK2 HX2 HB2 HGL
    generalize w2.heap.size = wi at *
    have x1 : w4.cell? ⟨g, 1, none⟩ = some (.int .u32 (xa : Int)) := HB4.out.cell 1
    have x2 : w4.cell? ⟨g, 2, none⟩ = some (.int .u32 (xb : Int)) := HB4.out.cell 2
    have q1 : w4.frozen? ⟨wi + 1, 1, none⟩ = false := HW4.out.frozen 1
    have z1 := HW4.out.cell 1
    have q2 : w4.frozen? ⟨wi + 1, 2, none⟩ = false := HW4.out.frozen 2
    have z2 := HW4.out.cell 2
    have hk := HKK.out
    have HRR := Lib.hid (show fitsI ⟨xop, xa, xb, xn, xv, xlA, xln, xlc, xtA, xtn, xtc, xbk, xbv, xbt, xbA, xbn, xbc, xeA, xen, xec⟩ L T imm = (flatP (⟨xop, xa, xb, 0, fun _ => 0, none, 0, 0, none, 0, 0, 0, 0, 0, none, 0, 0, none, 0, 0⟩ : IC) [] [] ⟨xop, xa, xb, xn, xv, xlA, xln, xlc, xtA, xtn, xtc, xbk, xbv, xbt, xbA, xbn, xbc, xeA, xen, xec⟩ L T && (0 : Nat) == xbn && (0 : Nat) == xen) from by rcases hk with rfl | rfl | rfl <;> simp [fitsI, okP, restP, wantP, wantZ])
    rcases hk with rfl | rfl | rfl
    all_goals
      go_upto_region 24 with fail
      go_region
      go_upto_region 52 with fail
      have hwf : Blk ((w4.setCell ⟨wi + 1, 1, none⟩ (.int .u32 (xa : Int))).setCell ⟨wi + 1, 2, none⟩ (.int .u32 (xb : Int))).drew (wi + 1) 70 #[.int .u16 (xop : Int), .int .u32 (xa : Int), .int .u32 (xb : Int), .int .u64 0, .int .u8 0, .int .u8 0, .int .u8 0, .int .u8 0, .int .u8 0, .int .u8 0, .int .u8 0, .int .u8 0, .int .u8 0, .int .u8 0, .int .u8 0, .int .u8 0, .int .u8 0, .int .u8 0, .int .u8 0, .int .u8 0, .slice none 0 0, .slice none 0 0, .int .u8 0, .int .u8 0, .int .u32 0, .slice none 0 0, .slice none 0 0] := ((HW4.out.set_ 1 (.int .u32 (xa : Int))).set_ 2 (.int .u32 (xb : Int)))
      have hkf : Kept S0 w ((w4.setCell ⟨wi + 1, 1, none⟩ (.int .u32 (xa : Int))).setCell ⟨wi + 1, 2, none⟩ (.int .u32 (xb : Int))).drew := Kept.drew <| ((HK4.out.setCell (p := ⟨wi + 1, 1, none⟩) (.inr HWL.out) (.int .u32 (xa : Int))).setCell (p := ⟨wi + 1, 2, none⟩) (.inr HWL.out) (.int .u32 (xb : Int)))
      have hk1 : Kept (S1 (wi + 1)) w4 ((w4.setCell ⟨wi + 1, 1, none⟩ (.int .u32 (xa : Int))).setCell ⟨wi + 1, 2, none⟩ (.int .u32 (xb : Int))).drew := Kept.drew <| (((Kept.refl (S1 (wi + 1)) w4).setCell (p := ⟨wi + 1, 1, none⟩) (.inl rfl) (.int .u32 (xa : Int))).setCell (p := ⟨wi + 1, 2, none⟩) (.inl rfl) (.int .u32 (xb : Int)))
      have hxf : Blk ((w4.setCell ⟨wi + 1, 1, none⟩ (.int .u32 (xa : Int))).setCell ⟨wi + 1, 2, none⟩ (.int .u32 (xb : Int))).drew g 70 #[.int .u16 (xop : Int), .int .u32 (xa : Int), .int .u32 (xb : Int), .int .u64 (xn : Int), .int .u8 ((xv 0).toNat : Int), .int .u8 ((xv 1).toNat : Int), .int .u8 ((xv 2).toNat : Int), .int .u8 ((xv 3).toNat : Int), .int .u8 ((xv 4).toNat : Int), .int .u8 ((xv 5).toNat : Int), .int .u8 ((xv 6).toNat : Int), .int .u8 ((xv 7).toNat : Int), .int .u8 ((xv 8).toNat : Int), .int .u8 ((xv 9).toNat : Int), .int .u8 ((xv 10).toNat : Int), .int .u8 ((xv 11).toNat : Int), .int .u8 ((xv 12).toNat : Int), .int .u8 ((xv 13).toNat : Int), .int .u8 ((xv 14).toNat : Int), .int .u8 ((xv 15).toNat : Int), .slice xlA xln xlc, .slice xtA xtn xtc, .int .u8 (xbk : Int), .int .u8 (xbv : Int), .int .u32 (xbt : Int), .slice xbA xbn xbc, .slice xeA xen xec] := hk1.blk HB4.out (fun e => by have e' : g = wi + 1 := e; have := HWB.out.1; omega)
      have hins : InsC ((w4.setCell ⟨wi + 1, 1, none⟩ (.int .u32 (xa : Int))).setCell ⟨wi + 1, 2, none⟩ (.int .u32 (xb : Int))).drew ⟨xop, xa, xb, xn, xv, xlA, xln, xlc, xtA, xtn, xtc, xbk, xbv, xbt, xbA, xbn, xbc, xeA, xen, xec⟩ L T := HX.out.kept0 hkf
      have HINS := Lib.hid hins
      have HXF := Lib.hid hxf
      have HWF := Lib.hid hwf
      have HKF := Lib.hid hkf
      clear hxf hwf hkf hk1 hins
      generalize hwz : ((w4.setCell ⟨wi + 1, 1, none⟩ (.int .u32 (xa : Int))).setCell ⟨wi + 1, 2, none⟩ (.int .u32 (xb : Int))).drew = w5 at *
      clear hwz
      have HF := Lib.hid (flat_any (⟨xop, xa, xb, 0, fun _ => 0, none, 0, 0, none, 0, 0, 0, 0, 0, none, 0, 0, none, 0, 0⟩ : IC) ⟨xop, xa, xb, xn, xv, xlA, xln, xlc, xtA, xtn, xtc, xbk, xbv, xbt, xbA, xbn, xbc, xeA, xen, xec⟩ [] [] L T w5 ⟨SlL.zero _ 1, SlL.zero _ 1⟩ HINS.out ⟨Nat.zero_le _, Nat.zero_le _, HLE.out.ln, HLE.out.tn⟩)
      generalize flatP (⟨xop, xa, xb, 0, fun _ => 0, none, 0, 0, none, 0, 0, 0, 0, 0, none, 0, 0, none, 0, 0⟩ : IC) [] [] ⟨xop, xa, xb, xn, xv, xlA, xln, xlc, xtA, xtn, xtc, xbk, xbv, xbt, xbA, xbn, xbc, xeA, xen, xec⟩ L T = fb at *
      have e1 : IC.arr (⟨xop, xa, xb, 0, fun _ => 0, none, 0, 0, none, 0, 0, 0, 0, 0, none, 0, 0, none, 0, 0⟩ : IC) = #[.int .u16 (xop : Int), .int .u32 (xa : Int), .int .u32 (xb : Int), .int .u64 0, .int .u8 0, .int .u8 0, .int .u8 0, .int .u8 0, .int .u8 0, .int .u8 0, .int .u8 0, .int .u8 0, .int .u8 0, .int .u8 0, .int .u8 0, .int .u8 0, .int .u8 0, .int .u8 0, .int .u8 0, .int .u8 0, .slice none 0 0, .slice none 0 0, .int .u8 0, .int .u8 0, .int .u32 0, .slice none 0 0, .slice none 0 0] := by unfold IC.arr; rfl
      rw [e1] at HF
      clear e1
      unfold IC.arr at HF
      refine wp_region_list ?_
      refine wpList_load_row rfl 70 _ rfl (wi + 1) rfl 70 #[.int .u16 (xop : Int), .int .u32 (xa : Int), .int .u32 (xb : Int), .int .u64 0, .int .u8 0, .int .u8 0, .int .u8 0, .int .u8 0, .int .u8 0, .int .u8 0, .int .u8 0, .int .u8 0, .int .u8 0, .int .u8 0, .int .u8 0, .int .u8 0, .int .u8 0, .int .u8 0, .int .u8 0, .int .u8 0, .slice none 0 0, .slice none 0 0, .int .u8 0, .int .u8 0, .int .u32 0, .slice none 0 0, .slice none 0 0] (0, 0) _ HWF.out Tryd.underlying70 rfl (by kernel_rfl) ?_
      refine wpList_load_row rfl 70 _ rfl g rfl 70 #[.int .u16 (xop : Int), .int .u32 (xa : Int), .int .u32 (xb : Int), .int .u64 (xn : Int), .int .u8 ((xv 0).toNat : Int), .int .u8 ((xv 1).toNat : Int), .int .u8 ((xv 2).toNat : Int), .int .u8 ((xv 3).toNat : Int), .int .u8 ((xv 4).toNat : Int), .int .u8 ((xv 5).toNat : Int), .int .u8 ((xv 6).toNat : Int), .int .u8 ((xv 7).toNat : Int), .int .u8 ((xv 8).toNat : Int), .int .u8 ((xv 9).toNat : Int), .int .u8 ((xv 10).toNat : Int), .int .u8 ((xv 11).toNat : Int), .int .u8 ((xv 12).toNat : Int), .int .u8 ((xv 13).toNat : Int), .int .u8 ((xv 14).toNat : Int), .int .u8 ((xv 15).toNat : Int), .slice xlA xln xlc, .slice xtA xtn xtc, .int .u8 (xbk : Int), .int .u8 (xbv : Int), .int .u32 (xbt : Int), .slice xbA xbn xbc, .slice xeA xen xec] (0, 0) _ HXF.out Tryd.underlying70 rfl (by kernel_rfl) ?_
      simp only [Act.put, List.setIfInBounds_toArray, List.set_cons_zero, List.set_cons_succ]
      go_wp2_with fail
      refine HF.out.mono ?_
      rintro e w6 ⟨rfl, hk6⟩
      have y8 : w6.cell? ⟨wi + 1, 25, none⟩ = some (.slice none 0 0) := (hk6.blk HWF.out (fun x => x)).cell 25
      have y9 : w6.cell? ⟨wi + 1, 26, none⟩ = some (.slice none 0 0) := (hk6.blk HWF.out (fun x => x)).cell 26
      have x8 : w6.cell? ⟨g, 25, none⟩ = some (.slice xbA xbn xbc) := (hk6.blk HXF.out (fun x => x)).cell 25
      have x9 : w6.cell? ⟨g, 26, none⟩ = some (.slice xeA xen xec) := (hk6.blk HXF.out (fun x => x)).cell 26
      have HKZ := Lib.hid (HKF.out.then0 hk6)
      have HQ := Lib.hid (show ∀ n : Nat, ((0 : Int) == (n : Int)) = ((0 : Nat) == n) from fun n => by rw [Bool.eq_iff_iff]; simp; omega)
      clear hk6
      cases fb with
      | false =>
        go_wp2_with fail
        go_ret
        exact ⟨ret_bool (by rw [HRR.out]; rfl), HKZ.out⟩
      | true =>
        go_wp2_with fail
        all_goals
          go_ret
          exact ⟨ret_bool (by rw [HRR.out, Bool.eq_iff_iff]; first | (simp; done) | (simp; omega)), HKZ.out⟩
end Go.Proofs.YtfmblalbcodpmaaDoor
namespace Go.Proofs.YtfmblalbcodpmaaDoor
open Go.RowKit
set_option maxRecDepth 100000 in
set_option maxHeartbeats 16000000 in
theorem fits_g (x : IC) (L T : List Nat) (w : World) (hx : InsC w x L T) (hle : ICle x) (hsp : SpTab w) (imm bits shp : Nat) (from_ to_ : List Nat) (hi : inf x.op = some (imm, bits, shp, from_, to_)) (h4 : x.op = 4) (hk : imm = 1) :
    Calls Tryd.prog 53 #[.agg x.arr] w fun e w' => e = .returned (.bool (fitsI x L T imm)) ∧ Kept S0 w w' := by
  have hka : Kept S0 w (w.alloc (.cells x.arr 70)) := (Kept.refl S0 w).alloc _
  have hb1 : Blk (w.alloc (.cells x.arr 70)) w.heap.size 70 x.arr := Blk.new w _ _
  have HX := Lib.hid hx
  have HKA := Lib.hid hka
  have HSP := Lib.hid hsp
  have HO := Lib.hid (fun w' hs => of_any x.op w' hle.op hs)
  have hop := hle.op
  have HLE := Lib.hid hle
  have HI := Lib.hid hi
  have HKK := Lib.hid hk
  have H4 := Lib.hid h4
  clear hx hka hsp hle hi hk h4
  unfold IC.arr at *
  obtain ⟨xop, xa, xb, xn, xv, xlA, xln, xlc, xtA, xtn, xtc, xbk, xbv, xbt, xbA, xbn, xbc, xeA, xen, xec⟩ := x
  simp only at *
  have HB1 := Lib.hid hb1
  have c0 : (w.alloc (.cells #[.int .u16 (xop : Int), .int .u32 (xa : Int), .int .u32 (xb : Int), .int .u64 (xn : Int), .int .u8 ((xv 0).toNat : Int), .int .u8 ((xv 1).toNat : Int), .int .u8 ((xv 2).toNat : Int), .int .u8 ((xv 3).toNat : Int), .int .u8 ((xv 4).toNat : Int), .int .u8 ((xv 5).toNat : Int), .int .u8 ((xv 6).toNat : Int), .int .u8 ((xv 7).toNat : Int), .int .u8 ((xv 8).toNat : Int), .int .u8 ((xv 9).toNat : Int), .int .u8 ((xv 10).toNat : Int), .int .u8 ((xv 11).toNat : Int), .int .u8 ((xv 12).toNat : Int), .int .u8 ((xv 13).toNat : Int), .int .u8 ((xv 14).toNat : Int), .int .u8 ((xv 15).toNat : Int), .slice xlA xln xlc, .slice xtA xtn xtc, .int .u8 (xbk : Int), .int .u8 (xbv : Int), .int .u32 (xbt : Int), .slice xbA xbn xbc, .slice xeA xen xec] 70)).cell? ⟨w.heap.size, 0, none⟩ = some (.int .u16 (xop : Int)) := hb1.cell 0
  clear hb1
  go_enter Tryd.func53, Tryd.ntmps53
  go_wp2_with fail
  generalize (w.alloc (.cells #[.int .u16 (xop : Int), .int .u32 (xa : Int), .int .u32 (xb : Int), .int .u64 (xn : Int), .int .u8 ((xv 0).toNat : Int), .int .u8 ((xv 1).toNat : Int), .int .u8 ((xv 2).toNat : Int), .int .u8 ((xv 3).toNat : Int), .int .u8 ((xv 4).toNat : Int), .int .u8 ((xv 5).toNat : Int), .int .u8 ((xv 6).toNat : Int), .int .u8 ((xv 7).toNat : Int), .int .u8 ((xv 8).toNat : Int), .int .u8 ((xv 9).toNat : Int), .int .u8 ((xv 10).toNat : Int), .int .u8 ((xv 11).toNat : Int), .int .u8 ((xv 12).toNat : Int), .int .u8 ((xv 13).toNat : Int), .int .u8 ((xv 14).toNat : Int), .int .u8 ((xv 15).toNat : Int), .slice xlA xln xlc, .slice xtA xtn xtc, .int .u8 (xbk : Int), .int .u8 (xbv : Int), .int .u32 (xbt : Int), .slice xbA xbn xbc, .slice xeA xen xec] 70)) = w1 at *
  have HSZ := Lib.hid (show w.heap.size < w1.heap.size from HB1.out.lt)
  generalize hg : w.heap.size = g at *
  refine (HO.out w1 (HSP.out.kept0 HKA.out)).mono ?_
  rintro e w2 ⟨hk2, ⟨hi, rfl⟩ | ⟨i, name, plain, vf, vt, hi, rfl, hinf⟩⟩
  · rw [HI.out] at hi
    cases hi
  · rw [HI.out] at hi
    obtain rfl := Option.some.inj hi
    obtain ⟨Af, cf, rfl, _⟩ := hinf.from_.out
    obtain ⟨At, ct, rfl, _⟩ := hinf.to_.out
    simp only
    have HK2 := Lib.hid (HKA.out.then0 hk2)
    have HX2 := Lib.hid (HX.out.kept0 (HKA.out.then0 hk2))
    have hb2 := hk2.blk HB1.out (fun x => x)
    have HB2 := Lib.hid hb2
    generalize from_.length = nf at *
    generalize to_.length = nt at *
    have c2 : (w2.alloc (.cells #[.int .u16 (xop : Int), .string name, .int .u8 (imm : Int), .slice Af nf cf, .slice At nt ct, .int .i64 (bits : Int), .bool plain] 129)).cell? ⟨g, 0, none⟩ = some (.int .u16 (xop : Int)) := (hb2.alloc _).cell 0
    have HGL := Lib.hid (show g < w2.heap.size from hb2.lt)
    clear hk2 c0 hinf hb2 hi HO
    have hz3 : Blk ((w2.alloc (.cells #[.int .u16 (xop : Int), .string name, .int .u8 (imm : Int), .slice Af nf cf, .slice At nt ct, .int .i64 (bits : Int), .bool plain] 129)).alloc (.cells #[.int .u16 0, .int .u32 0, .int .u32 0, .int .u64 0, .int .u8 0, .int .u8 0, .int .u8 0, .int .u8 0, .int .u8 0, .int .u8 0, .int .u8 0, .int .u8 0, .int .u8 0, .int .u8 0, .int .u8 0, .int .u8 0, .int .u8 0, .int .u8 0, .int .u8 0, .int .u8 0, .slice none 0 0, .slice none 0 0, .int .u8 0, .int .u8 0, .int .u32 0, .slice none 0 0, .slice none 0 0] 70)) (w2.heap.size + 1) 70 #[.int .u16 0, .int .u32 0, .int .u32 0, .int .u64 0, .int .u8 0, .int .u8 0, .int .u8 0, .int .u8 0, .int .u8 0, .int .u8 0, .int .u8 0, .int .u8 0, .int .u8 0, .int .u8 0, .int .u8 0, .int .u8 0, .int .u8 0, .int .u8 0, .int .u8 0, .int .u8 0, .slice none 0 0, .slice none 0 0, .int .u8 0, .int .u8 0, .int .u32 0, .slice none 0 0, .slice none 0 0] := Blk.new1 w2 _ _ _
    have hz4 := hz3
    unfold Blk at hz4
    go_upto_region 5 with (refine wpList_store_row rfl 70 _ _ rfl (w2.heap.size + 1) #[.int .u16 (xop : Int), .int .u32 0, .int .u32 0, .int .u64 0, .int .u8 0, .int .u8 0, .int .u8 0, .int .u8 0, .int .u8 0, .int .u8 0, .int .u8 0, .int .u8 0, .int .u8 0, .int .u8 0, .int .u8 0, .int .u8 0, .int .u8 0, .int .u8 0, .int .u8 0, .int .u8 0, .slice none 0 0, .slice none 0 0, .int .u8 0, .int .u8 0, .int .u32 0, .slice none 0 0, .slice none 0 0] rfl rfl 70 #[.int .u16 0, .int .u32 0, .int .u32 0, .int .u64 0, .int .u8 0, .int .u8 0, .int .u8 0, .int .u8 0, .int .u8 0, .int .u8 0, .int .u8 0, .int .u8 0, .int .u8 0, .int .u8 0, .int .u8 0, .int .u8 0, .int .u8 0, .int .u8 0, .int .u8 0, .int .u8 0, .slice none 0 0, .slice none 0 0, .int .u8 0, .int .u8 0, .int .u32 0, .slice none 0 0, .slice none 0 0] hz4 (by kernel_rfl) rfl (by kernel_rfl) ?_)
    have hw4 : ∃ w4, w4 = (((w2.alloc (.cells #[.int .u16 (xop : Int), .string name, .int .u8 (imm : Int), .slice Af nf cf, .slice At nt ct, .int .i64 (bits : Int), .bool plain] 129)).alloc (.cells #[.int .u16 0, .int .u32 0, .int .u32 0, .int .u64 0, .int .u8 0, .int .u8 0, .int .u8 0, .int .u8 0, .int .u8 0, .int .u8 0, .int .u8 0, .int .u8 0, .int .u8 0, .int .u8 0, .int .u8 0, .int .u8 0, .int .u8 0, .int .u8 0, .int .u8 0, .int .u8 0, .slice none 0 0, .slice none 0 0, .int .u8 0, .int .u8 0, .int .u32 0, .slice none 0 0, .slice none 0 0] 70)).setRow (w2.heap.size + 1) #[.int .u16 (xop : Int), .int .u32 0, .int .u32 0, .int .u64 0, .int .u8 0, .int .u8 0, .int .u8 0, .int .u8 0, .int .u8 0, .int .u8 0, .int .u8 0, .int .u8 0, .int .u8 0, .int .u8 0, .int .u8 0, .int .u8 0, .int .u8 0, .int .u8 0, .int .u8 0, .int .u8 0, .slice none 0 0, .slice none 0 0, .int .u8 0, .int .u8 0, .int .u32 0, .slice none 0 0, .slice none 0 0]) := ⟨_, rfl⟩
    obtain ⟨w4, hw4⟩ := hw4
    have hk4 : Kept S0 w2 w4 := by rw [hw4]; exact (((Kept.refl S0 w2).alloc _).alloc _).setRow (.inr (Nat.le_succ _)) _
    have hw : Blk w4 (w2.heap.size + 1) 70 #[.int .u16 (xop : Int), .int .u32 0, .int .u32 0, .int .u64 0, .int .u8 0, .int .u8 0, .int .u8 0, .int .u8 0, .int .u8 0, .int .u8 0, .int .u8 0, .int .u8 0, .int .u8 0, .int .u8 0, .int .u8 0, .int .u8 0, .int .u8 0, .int .u8 0, .int .u8 0, .int .u8 0, .slice none 0 0, .slice none 0 0, .int .u8 0, .int .u8 0, .int .u32 0, .slice none 0 0, .slice none 0 0] := by rw [hw4]; exact hz3.setRow _
    have hinfo : w4.cell? ⟨w2.heap.size, 2, none⟩ = some (.int .u8 (imm : Int)) := by
      rw [hw4]
      exact ((((Blk.new w2 129 #[.int .u16 (xop : Int), .string name, .int .u8 (imm : Int), .slice Af nf cf, .slice At nt ct, .int .i64 (bits : Int), .bool plain]).alloc _).setRowFar (by omega) _).cell 2)
    rw [← hw4]
    clear hw4 c2 hz3 hz4
    have HK4 := Lib.hid (HK2.out.then0 hk4)
    have HX4 := Lib.hid (HX2.out.kept0 hk4)
    have HB4 := Lib.hid (hk4.blk HB2.out (fun x => x))
    have HW4 := Lib.hid hw
    have HWL := Lib.hid (show w.heap.size ≤ w2.heap.size + 1 by have := HGL.out; omega)
    have HWB := Lib.hid (show g < w2.heap.size + 1 ∧ g = w.heap.size from ⟨by have := HGL.out; omega, hg.symm⟩)
    clear hk4 hw HK2 HX2 HB2 HGL
    generalize w2.heap.size = wi at *
    have x22 : w4.cell? ⟨g, 22, none⟩ = some (.int .u8 (xbk : Int)) := HB4.out.cell 22
    have x23 : w4.cell? ⟨g, 23, none⟩ = some (.int .u8 (xbv : Int)) := HB4.out.cell 23
    have x24 : w4.cell? ⟨g, 24, none⟩ = some (.int .u32 (xbt : Int)) := HB4.out.cell 24
    have x25 : w4.cell? ⟨g, 25, none⟩ = some (.slice xbA xbn xbc) := HB4.out.cell 25
    have q22 : w4.frozen? ⟨wi + 1, 22, none⟩ = false := HW4.out.frozen 22
    have z22 := HW4.out.cell 22
    have q23 : w4.frozen? ⟨wi + 1, 23, none⟩ = false := HW4.out.frozen 23
    have z23 := HW4.out.cell 23
    have q24 : w4.frozen? ⟨wi + 1, 24, none⟩ = false := HW4.out.frozen 24
    have z24 := HW4.out.cell 24
    have q25 : w4.frozen? ⟨wi + 1, 25, none⟩ = false := HW4.out.frozen 25
    have z25 := HW4.out.cell 25
    have hk := HKK.out
    have HRR := Lib.hid (show fitsI ⟨xop, xa, xb, xn, xv, xlA, xln, xlc, xtA, xtn, xtc, xbk, xbv, xbt, xbA, xbn, xbc, xeA, xen, xec⟩ L T imm = (rightP xbk xbv xbt && flatP (⟨xop, 0, 0, 0, fun _ => 0, none, 0, 0, none, 0, 0, xbk, xbv, xbt, xbA, xbn, xbc, xeA, xen, xec⟩ : IC) [] [] ⟨xop, xa, xb, xn, xv, xlA, xln, xlc, xtA, xtn, xtc, xbk, xbv, xbt, xbA, xbn, xbc, xeA, xen, xec⟩ L T && (xbn : Nat) == xbn && (xen : Nat) == xen) from by rcases hk with rfl <;> simp [fitsI, okP, restP, wantP, wantZ, show xop = 4 from H4.out])
    subst hk
    go_upto_region 7 with fail
    go_region
    have hwf : Blk ((((w4.setCell ⟨wi + 1, 22, none⟩ (.int .u8 (xbk : Int))).setCell ⟨wi + 1, 23, none⟩ (.int .u8 (xbv : Int))).setCell ⟨wi + 1, 24, none⟩ (.int .u32 (xbt : Int))).setCell ⟨wi + 1, 25, none⟩ (.slice xbA xbn xbc)).drew (wi + 1) 70 #[.int .u16 (xop : Int), .int .u32 0, .int .u32 0, .int .u64 0, .int .u8 0, .int .u8 0, .int .u8 0, .int .u8 0, .int .u8 0, .int .u8 0, .int .u8 0, .int .u8 0, .int .u8 0, .int .u8 0, .int .u8 0, .int .u8 0, .int .u8 0, .int .u8 0, .int .u8 0, .int .u8 0, .slice none 0 0, .slice none 0 0, .int .u8 (xbk : Int), .int .u8 (xbv : Int), .int .u32 (xbt : Int), .slice xbA xbn xbc, .slice none 0 0] := ((((HW4.out.set_ 22 (.int .u8 (xbk : Int))).set_ 23 (.int .u8 (xbv : Int))).set_ 24 (.int .u32 (xbt : Int))).set_ 25 (.slice xbA xbn xbc))
    have hkf : Kept S0 w ((((w4.setCell ⟨wi + 1, 22, none⟩ (.int .u8 (xbk : Int))).setCell ⟨wi + 1, 23, none⟩ (.int .u8 (xbv : Int))).setCell ⟨wi + 1, 24, none⟩ (.int .u32 (xbt : Int))).setCell ⟨wi + 1, 25, none⟩ (.slice xbA xbn xbc)).drew := Kept.drew <| ((((HK4.out.setCell (p := ⟨wi + 1, 22, none⟩) (.inr HWL.out) (.int .u8 (xbk : Int))).setCell (p := ⟨wi + 1, 23, none⟩) (.inr HWL.out) (.int .u8 (xbv : Int))).setCell (p := ⟨wi + 1, 24, none⟩) (.inr HWL.out) (.int .u32 (xbt : Int))).setCell (p := ⟨wi + 1, 25, none⟩) (.inr HWL.out) (.slice xbA xbn xbc))
    have hk1 : Kept (S1 (wi + 1)) w4 ((((w4.setCell ⟨wi + 1, 22, none⟩ (.int .u8 (xbk : Int))).setCell ⟨wi + 1, 23, none⟩ (.int .u8 (xbv : Int))).setCell ⟨wi + 1, 24, none⟩ (.int .u32 (xbt : Int))).setCell ⟨wi + 1, 25, none⟩ (.slice xbA xbn xbc)).drew := Kept.drew <| (((((Kept.refl (S1 (wi + 1)) w4).setCell (p := ⟨wi + 1, 22, none⟩) (.inl rfl) (.int .u8 (xbk : Int))).setCell (p := ⟨wi + 1, 23, none⟩) (.inl rfl) (.int .u8 (xbv : Int))).setCell (p := ⟨wi + 1, 24, none⟩) (.inl rfl) (.int .u32 (xbt : Int))).setCell (p := ⟨wi + 1, 25, none⟩) (.inl rfl) (.slice xbA xbn xbc))
    have hxf : Blk ((((w4.setCell ⟨wi + 1, 22, none⟩ (.int .u8 (xbk : Int))).setCell ⟨wi + 1, 23, none⟩ (.int .u8 (xbv : Int))).setCell ⟨wi + 1, 24, none⟩ (.int .u32 (xbt : Int))).setCell ⟨wi + 1, 25, none⟩ (.slice xbA xbn xbc)).drew g 70 #[.int .u16 (xop : Int), .int .u32 (xa : Int), .int .u32 (xb : Int), .int .u64 (xn : Int), .int .u8 ((xv 0).toNat : Int), .int .u8 ((xv 1).toNat : Int), .int .u8 ((xv 2).toNat : Int), .int .u8 ((xv 3).toNat : Int), .int .u8 ((xv 4).toNat : Int), .int .u8 ((xv 5).toNat : Int), .int .u8 ((xv 6).toNat : Int), .int .u8 ((xv 7).toNat : Int), .int .u8 ((xv 8).toNat : Int), .int .u8 ((xv 9).toNat : Int), .int .u8 ((xv 10).toNat : Int), .int .u8 ((xv 11).toNat : Int), .int .u8 ((xv 12).toNat : Int), .int .u8 ((xv 13).toNat : Int), .int .u8 ((xv 14).toNat : Int), .int .u8 ((xv 15).toNat : Int), .slice xlA xln xlc, .slice xtA xtn xtc, .int .u8 (xbk : Int), .int .u8 (xbv : Int), .int .u32 (xbt : Int), .slice xbA xbn xbc, .slice xeA xen xec] := hk1.blk HB4.out (fun e => by have e' : g = wi + 1 := e; have := HWB.out.1; omega)
    have HWq := Lib.hid hwf
    have HXq := Lib.hid hxf
    have HKq := Lib.hid hkf
    clear hwf hxf hkf hk1 x22 x23 x24 x25 q22 q23 q24 q25 z22 z23 z24 z25
    generalize ((((w4.setCell ⟨wi + 1, 22, none⟩ (.int .u8 (xbk : Int))).setCell ⟨wi + 1, 23, none⟩ (.int .u8 (xbv : Int))).setCell ⟨wi + 1, 24, none⟩ (.int .u32 (xbt : Int))).setCell ⟨wi + 1, 25, none⟩ (.slice xbA xbn xbc)).drew = wq at *
    have HRB := Lib.hid (fun w => rblock_any xbk xbv xbt w)
    have hq : ((xop : Int) == 4) = true := by have := H4.out; simp; omega
    have hqq : (xop : Int) = 4 := by have := H4.out; omega
    have HQQ := Lib.hid hqq
    clear hqq
    have x0 : wq.cell? ⟨g, 0, none⟩ = some (.int .u16 (xop : Int)) := HXq.out.cell 0
    have x22 : wq.cell? ⟨g, 22, none⟩ = some (.int .u8 (xbk : Int)) := HXq.out.cell 22
    have x23 : wq.cell? ⟨g, 23, none⟩ = some (.int .u8 (xbv : Int)) := HXq.out.cell 23
    have x24 : wq.cell? ⟨g, 24, none⟩ = some (.int .u32 (xbt : Int)) := HXq.out.cell 24
    have x26 : wq.cell? ⟨g, 26, none⟩ = some (.slice xeA xen xec) := HXq.out.cell 26
    have q26 : wq.frozen? ⟨wi + 1, 26, none⟩ = false := HWq.out.frozen 26
    have z26 := HWq.out.cell 26
    have hk9 : Kept (S1 (wi + 1)) wq (wq.setCell ⟨wi + 1, 26, none⟩ (.slice xeA xen xec)) := (Kept.refl (S1 (wi + 1)) wq).setCell (p := ⟨wi + 1, 26, none⟩) (.inl rfl) _
    have hx9 : Blk (wq.setCell ⟨wi + 1, 26, none⟩ (.slice xeA xen xec)) g 70 #[.int .u16 (xop : Int), .int .u32 (xa : Int), .int .u32 (xb : Int), .int .u64 (xn : Int), .int .u8 ((xv 0).toNat : Int), .int .u8 ((xv 1).toNat : Int), .int .u8 ((xv 2).toNat : Int), .int .u8 ((xv 3).toNat : Int), .int .u8 ((xv 4).toNat : Int), .int .u8 ((xv 5).toNat : Int), .int .u8 ((xv 6).toNat : Int), .int .u8 ((xv 7).toNat : Int), .int .u8 ((xv 8).toNat : Int), .int .u8 ((xv 9).toNat : Int), .int .u8 ((xv 10).toNat : Int), .int .u8 ((xv 11).toNat : Int), .int .u8 ((xv 12).toNat : Int), .int .u8 ((xv 13).toNat : Int), .int .u8 ((xv 14).toNat : Int), .int .u8 ((xv 15).toNat : Int), .slice xlA xln xlc, .slice xtA xtn xtc, .int .u8 (xbk : Int), .int .u8 (xbv : Int), .int .u32 (xbt : Int), .slice xbA xbn xbc, .slice xeA xen xec] := hk9.blk HXq.out (fun e => by have e' : g = wi + 1 := e; have := HWB.out.1; omega)
    have xx22 : (wq.setCell ⟨wi + 1, 26, none⟩ (.slice xeA xen xec)).cell? ⟨g, 22, none⟩ = some (.int .u8 (xbk : Int)) := hx9.cell 22
    have xx23 : (wq.setCell ⟨wi + 1, 26, none⟩ (.slice xeA xen xec)).cell? ⟨g, 23, none⟩ = some (.int .u8 (xbv : Int)) := hx9.cell 23
    have xx24 : (wq.setCell ⟨wi + 1, 26, none⟩ (.slice xeA xen xec)).cell? ⟨g, 24, none⟩ = some (.int .u32 (xbt : Int)) := hx9.cell 24
    have HX9 := Lib.hid hx9
    have HW9 := Lib.hid (show Blk (wq.setCell ⟨wi + 1, 26, none⟩ (.slice xeA xen xec)) (wi + 1) 70 #[.int .u16 (xop : Int), .int .u32 0, .int .u32 0, .int .u64 0, .int .u8 0, .int .u8 0, .int .u8 0, .int .u8 0, .int .u8 0, .int .u8 0, .int .u8 0, .int .u8 0, .int .u8 0, .int .u8 0, .int .u8 0, .int .u8 0, .int .u8 0, .int .u8 0, .int .u8 0, .int .u8 0, .slice none 0 0, .slice none 0 0, .int .u8 (xbk : Int), .int .u8 (xbv : Int), .int .u32 (xbt : Int), .slice xbA xbn xbc, .slice xeA xen xec] from HWq.out.set_ 26 _)
    have HK9 := Lib.hid (HKq.out.setCell (p := ⟨wi + 1, 26, none⟩) (.inr HWL.out) (.slice xeA xen xec))
    clear hk9 hx9
    by_cases hok : rightP xbk xbv xbt = true
    · have h0 := HRR.out
      rw [hok, Bool.true_and] at h0
      replace HRR := Lib.hid h0
      rw [hok] at HRB
      clear h0 hok
      go_upto_region 52 with (go_at_call 78; refine (HRB.out _).mono ?_; rintro e w6 ⟨rfl, hkr⟩)
      all_goals first | (exfalso; have := HQQ.out; omega) | (exfalso; have := HQQ.out; contradiction) | skip
      have hwf := hkr.blk HW9.out (fun x => x)
      have hxf := hkr.blk HX9.out (fun x => x)
      have hkf := HK9.out.then0 hkr
      clear hkr
      have hins : InsC w6 ⟨xop, xa, xb, xn, xv, xlA, xln, xlc, xtA, xtn, xtc, xbk, xbv, xbt, xbA, xbn, xbc, xeA, xen, xec⟩ L T := HX.out.kept0 hkf
      have HINS := Lib.hid hins
      have HXF := Lib.hid hxf
      have HWF := Lib.hid hwf
      have HKF := Lib.hid hkf
      clear hxf hwf hkf hins
      generalize hwz : w6 = w5 at *
      clear hwz
      have HF := Lib.hid (flat_any (⟨xop, 0, 0, 0, fun _ => 0, none, 0, 0, none, 0, 0, xbk, xbv, xbt, xbA, xbn, xbc, xeA, xen, xec⟩ : IC) ⟨xop, xa, xb, xn, xv, xlA, xln, xlc, xtA, xtn, xtc, xbk, xbv, xbt, xbA, xbn, xbc, xeA, xen, xec⟩ [] [] L T w5 ⟨SlL.zero _ 1, SlL.zero _ 1⟩ HINS.out ⟨Nat.zero_le _, Nat.zero_le _, HLE.out.ln, HLE.out.tn⟩)
      generalize flatP (⟨xop, 0, 0, 0, fun _ => 0, none, 0, 0, none, 0, 0, xbk, xbv, xbt, xbA, xbn, xbc, xeA, xen, xec⟩ : IC) [] [] ⟨xop, xa, xb, xn, xv, xlA, xln, xlc, xtA, xtn, xtc, xbk, xbv, xbt, xbA, xbn, xbc, xeA, xen, xec⟩ L T = fb at *
      have e1 : IC.arr (⟨xop, 0, 0, 0, fun _ => 0, none, 0, 0, none, 0, 0, xbk, xbv, xbt, xbA, xbn, xbc, xeA, xen, xec⟩ : IC) = #[.int .u16 (xop : Int), .int .u32 0, .int .u32 0, .int .u64 0, .int .u8 0, .int .u8 0, .int .u8 0, .int .u8 0, .int .u8 0, .int .u8 0, .int .u8 0, .int .u8 0, .int .u8 0, .int .u8 0, .int .u8 0, .int .u8 0, .int .u8 0, .int .u8 0, .int .u8 0, .int .u8 0, .slice none 0 0, .slice none 0 0, .int .u8 (xbk : Int), .int .u8 (xbv : Int), .int .u32 (xbt : Int), .slice xbA xbn xbc, .slice xeA xen xec] := by unfold IC.arr; rfl
      rw [e1] at HF
      clear e1
      unfold IC.arr at HF
      refine wp_region_list ?_
      refine wpList_load_row rfl 70 _ rfl (wi + 1) rfl 70 #[.int .u16 (xop : Int), .int .u32 0, .int .u32 0, .int .u64 0, .int .u8 0, .int .u8 0, .int .u8 0, .int .u8 0, .int .u8 0, .int .u8 0, .int .u8 0, .int .u8 0, .int .u8 0, .int .u8 0, .int .u8 0, .int .u8 0, .int .u8 0, .int .u8 0, .int .u8 0, .int .u8 0, .slice none 0 0, .slice none 0 0, .int .u8 (xbk : Int), .int .u8 (xbv : Int), .int .u32 (xbt : Int), .slice xbA xbn xbc, .slice xeA xen xec] (0, 0) _ HWF.out Tryd.underlying70 rfl (by kernel_rfl) ?_
      refine wpList_load_row rfl 70 _ rfl g rfl 70 #[.int .u16 (xop : Int), .int .u32 (xa : Int), .int .u32 (xb : Int), .int .u64 (xn : Int), .int .u8 ((xv 0).toNat : Int), .int .u8 ((xv 1).toNat : Int), .int .u8 ((xv 2).toNat : Int), .int .u8 ((xv 3).toNat : Int), .int .u8 ((xv 4).toNat : Int), .int .u8 ((xv 5).toNat : Int), .int .u8 ((xv 6).toNat : Int), .int .u8 ((xv 7).toNat : Int), .int .u8 ((xv 8).toNat : Int), .int .u8 ((xv 9).toNat : Int), .int .u8 ((xv 10).toNat : Int), .int .u8 ((xv 11).toNat : Int), .int .u8 ((xv 12).toNat : Int), .int .u8 ((xv 13).toNat : Int), .int .u8 ((xv 14).toNat : Int), .int .u8 ((xv 15).toNat : Int), .slice xlA xln xlc, .slice xtA xtn xtc, .int .u8 (xbk : Int), .int .u8 (xbv : Int), .int .u32 (xbt : Int), .slice xbA xbn xbc, .slice xeA xen xec] (0, 0) _ HXF.out Tryd.underlying70 rfl (by kernel_rfl) ?_
      simp only [Act.put, List.setIfInBounds_toArray, List.set_cons_zero, List.set_cons_succ]
      go_wp2_with fail
      refine HF.out.mono ?_
      rintro e w6 ⟨rfl, hk6⟩
      have y8 : w6.cell? ⟨wi + 1, 25, none⟩ = some (.slice xbA xbn xbc) := (hk6.blk HWF.out (fun x => x)).cell 25
      have y9 : w6.cell? ⟨wi + 1, 26, none⟩ = some (.slice xeA xen xec) := (hk6.blk HWF.out (fun x => x)).cell 26
      have x8 : w6.cell? ⟨g, 25, none⟩ = some (.slice xbA xbn xbc) := (hk6.blk HXF.out (fun x => x)).cell 25
      have x9 : w6.cell? ⟨g, 26, none⟩ = some (.slice xeA xen xec) := (hk6.blk HXF.out (fun x => x)).cell 26
      have HKZ := Lib.hid (HKF.out.then0 hk6)
      have HQ := Lib.hid (show ∀ n : Nat, ((0 : Int) == (n : Int)) = ((0 : Nat) == n) from fun n => by rw [Bool.eq_iff_iff]; simp; omega)
      clear hk6
      cases fb with
      | false =>
        go_wp2_with fail
        go_ret
        exact ⟨ret_bool (by rw [HRR.out]; rfl), HKZ.out⟩
      | true =>
        go_wp2_with fail
        all_goals
          go_ret
          exact ⟨ret_bool (by rw [HRR.out, Bool.eq_iff_iff]; first | (simp; done) | (simp; omega)), HKZ.out⟩
    · have hok' : rightP xbk xbv xbt = false := by simpa using hok
      have h0 := HRR.out
      rw [hok'] at h0
      simp only [Bool.false_and] at h0
      have H0 := Lib.hid h0
      rw [hok'] at HRB
      clear h0 hok hok'
      go_wp2_with (go_at_call 78; refine (HRB.out _).mono ?_; rintro e w6 ⟨rfl, hkr⟩)
      all_goals first | (exfalso; have := HQQ.out; omega) | (exfalso; have := HQQ.out; contradiction) | skip
      go_ret
      exact ⟨ret_bool H0.out.symm, HK9.out.then0 hkr⟩
end Go.Proofs.YtfmblalbcodpmaaDoor
namespace Go.Proofs.YtfmblalbcodpmaaDoor
open Go.RowKit
set_option maxRecDepth 100000 in
set_option maxHeartbeats 16000000 in
theorem fits_h (x : IC) (L T : List Nat) (w : World) (hx : InsC w x L T) (hle : ICle x) (hsp : SpTab w) (imm bits shp : Nat) (from_ to_ : List Nat) (hi : inf x.op = some (imm, bits, shp, from_, to_)) (h4 : x.op ≠ 4) (hk : imm = 1) :
    Calls Tryd.prog 53 #[.agg x.arr] w fun e w' => e = .returned (.bool (fitsI x L T imm)) ∧ Kept S0 w w' := by
  have hka : Kept S0 w (w.alloc (.cells x.arr 70)) := (Kept.refl S0 w).alloc _
  have hb1 : Blk (w.alloc (.cells x.arr 70)) w.heap.size 70 x.arr := Blk.new w _ _
  have HX := Lib.hid hx
  have HKA := Lib.hid hka
  have HSP := Lib.hid hsp
  have HO := Lib.hid (fun w' hs => of_any x.op w' hle.op hs)
  have hop := hle.op
  have HLE := Lib.hid hle
  have HI := Lib.hid hi
  have HKK := Lib.hid hk
  have H4 := Lib.hid h4
  clear hx hka hsp hle hi hk h4
  unfold IC.arr at *
  obtain ⟨xop, xa, xb, xn, xv, xlA, xln, xlc, xtA, xtn, xtc, xbk, xbv, xbt, xbA, xbn, xbc, xeA, xen, xec⟩ := x
  simp only at *
  have HB1 := Lib.hid hb1
  have c0 : (w.alloc (.cells #[.int .u16 (xop : Int), .int .u32 (xa : Int), .int .u32 (xb : Int), .int .u64 (xn : Int), .int .u8 ((xv 0).toNat : Int), .int .u8 ((xv 1).toNat : Int), .int .u8 ((xv 2).toNat : Int), .int .u8 ((xv 3).toNat : Int), .int .u8 ((xv 4).toNat : Int), .int .u8 ((xv 5).toNat : Int), .int .u8 ((xv 6).toNat : Int), .int .u8 ((xv 7).toNat : Int), .int .u8 ((xv 8).toNat : Int), .int .u8 ((xv 9).toNat : Int), .int .u8 ((xv 10).toNat : Int), .int .u8 ((xv 11).toNat : Int), .int .u8 ((xv 12).toNat : Int), .int .u8 ((xv 13).toNat : Int), .int .u8 ((xv 14).toNat : Int), .int .u8 ((xv 15).toNat : Int), .slice xlA xln xlc, .slice xtA xtn xtc, .int .u8 (xbk : Int), .int .u8 (xbv : Int), .int .u32 (xbt : Int), .slice xbA xbn xbc, .slice xeA xen xec] 70)).cell? ⟨w.heap.size, 0, none⟩ = some (.int .u16 (xop : Int)) := hb1.cell 0
  clear hb1
  go_enter Tryd.func53, Tryd.ntmps53
  go_wp2_with fail
  generalize (w.alloc (.cells #[.int .u16 (xop : Int), .int .u32 (xa : Int), .int .u32 (xb : Int), .int .u64 (xn : Int), .int .u8 ((xv 0).toNat : Int), .int .u8 ((xv 1).toNat : Int), .int .u8 ((xv 2).toNat : Int), .int .u8 ((xv 3).toNat : Int), .int .u8 ((xv 4).toNat : Int), .int .u8 ((xv 5).toNat : Int), .int .u8 ((xv 6).toNat : Int), .int .u8 ((xv 7).toNat : Int), .int .u8 ((xv 8).toNat : Int), .int .u8 ((xv 9).toNat : Int), .int .u8 ((xv 10).toNat : Int), .int .u8 ((xv 11).toNat : Int), .int .u8 ((xv 12).toNat : Int), .int .u8 ((xv 13).toNat : Int), .int .u8 ((xv 14).toNat : Int), .int .u8 ((xv 15).toNat : Int), .slice xlA xln xlc, .slice xtA xtn xtc, .int .u8 (xbk : Int), .int .u8 (xbv : Int), .int .u32 (xbt : Int), .slice xbA xbn xbc, .slice xeA xen xec] 70)) = w1 at *
  have HSZ := Lib.hid (show w.heap.size < w1.heap.size from HB1.out.lt)
  generalize hg : w.heap.size = g at *
  refine (HO.out w1 (HSP.out.kept0 HKA.out)).mono ?_
  rintro e w2 ⟨hk2, ⟨hi, rfl⟩ | ⟨i, name, plain, vf, vt, hi, rfl, hinf⟩⟩
  · rw [HI.out] at hi
    cases hi
  · rw [HI.out] at hi
    obtain rfl := Option.some.inj hi
    obtain ⟨Af, cf, rfl, _⟩ := hinf.from_.out
    obtain ⟨At, ct, rfl, _⟩ := hinf.to_.out
    simp only
    have HK2 := Lib.hid (HKA.out.then0 hk2)
    have HX2 := Lib.hid (HX.out.kept0 (HKA.out.then0 hk2))
    have hb2 := hk2.blk HB1.out (fun x => x)
    have HB2 := Lib.hid hb2
    generalize from_.length = nf at *
    generalize to_.length = nt at *
    have c2 : (w2.alloc (.cells #[.int .u16 (xop : Int), .string name, .int .u8 (imm : Int), .slice Af nf cf, .slice At nt ct, .int .i64 (bits : Int), .bool plain] 129)).cell? ⟨g, 0, none⟩ = some (.int .u16 (xop : Int)) := (hb2.alloc _).cell 0
    have HGL := Lib.hid (show g < w2.heap.size from hb2.lt)
    clear hk2 c0 hinf hb2 hi HO
    have hz3 : Blk ((w2.alloc (.cells #[.int .u16 (xop : Int), .string name, .int .u8 (imm : Int), .slice Af nf cf, .slice At nt ct, .int .i64 (bits : Int), .bool plain] 129)).alloc (.cells #[.int .u16 0, .int .u32 0, .int .u32 0, .int .u64 0, .int .u8 0, .int .u8 0, .int .u8 0, .int .u8 0, .int .u8 0, .int .u8 0, .int .u8 0, .int .u8 0, .int .u8 0, .int .u8 0, .int .u8 0, .int .u8 0, .int .u8 0, .int .u8 0, .int .u8 0, .int .u8 0, .slice none 0 0, .slice none 0 0, .int .u8 0, .int .u8 0, .int .u32 0, .slice none 0 0, .slice none 0 0] 70)) (w2.heap.size + 1) 70 #[.int .u16 0, .int .u32 0, .int .u32 0, .int .u64 0, .int .u8 0, .int .u8 0, .int .u8 0, .int .u8 0, .int .u8 0, .int .u8 0, .int .u8 0, .int .u8 0, .int .u8 0, .int .u8 0, .int .u8 0, .int .u8 0, .int .u8 0, .int .u8 0, .int .u8 0, .int .u8 0, .slice none 0 0, .slice none 0 0, .int .u8 0, .int .u8 0, .int .u32 0, .slice none 0 0, .slice none 0 0] := Blk.new1 w2 _ _ _
    have hz4 := hz3
    unfold Blk at hz4
    go_upto_region 5 with (refine wpList_store_row rfl 70 _ _ rfl (w2.heap.size + 1) #[.int .u16 (xop : Int), .int .u32 0, .int .u32 0, .int .u64 0, .int .u8 0, .int .u8 0, .int .u8 0, .int .u8 0, .int .u8 0, .int .u8 0, .int .u8 0, .int .u8 0, .int .u8 0, .int .u8 0, .int .u8 0, .int .u8 0, .int .u8 0, .int .u8 0, .int .u8 0, .int .u8 0, .slice none 0 0, .slice none 0 0, .int .u8 0, .int .u8 0, .int .u32 0, .slice none 0 0, .slice none 0 0] rfl rfl 70 #[.int .u16 0, .int .u32 0, .int .u32 0, .int .u64 0, .int .u8 0, .int .u8 0, .int .u8 0, .int .u8 0, .int .u8 0, .int .u8 0, .int .u8 0, .int .u8 0, .int .u8 0, .int .u8 0, .int .u8 0, .int .u8 0, .int .u8 0, .int .u8 0, .int .u8 0, .int .u8 0, .slice none 0 0, .slice none 0 0, .int .u8 0, .int .u8 0, .int .u32 0, .slice none 0 0, .slice none 0 0] hz4 (by kernel_rfl) rfl (by kernel_rfl) ?_)
    have hw4 : ∃ w4, w4 = (((w2.alloc (.cells #[.int .u16 (xop : Int), .string name, .int .u8 (imm : Int), .slice Af nf cf, .slice At nt ct, .int .i64 (bits : Int), .bool plain] 129)).alloc (.cells #[.int .u16 0, .int .u32 0, .int .u32 0, .int .u64 0, .int .u8 0, .int .u8 0, .int .u8 0, .int .u8 0, .int .u8 0, .int .u8 0, .int .u8 0, .int .u8 0, .int .u8 0, .int .u8 0, .int .u8 0, .int .u8 0, .int .u8 0, .int .u8 0, .int .u8 0, .int .u8 0, .slice none 0 0, .slice none 0 0, .int .u8 0, .int .u8 0, .int .u32 0, .slice none 0 0, .slice none 0 0] 70)).setRow (w2.heap.size + 1) #[.int .u16 (xop : Int), .int .u32 0, .int .u32 0, .int .u64 0, .int .u8 0, .int .u8 0, .int .u8 0, .int .u8 0, .int .u8 0, .int .u8 0, .int .u8 0, .int .u8 0, .int .u8 0, .int .u8 0, .int .u8 0, .int .u8 0, .int .u8 0, .int .u8 0, .int .u8 0, .int .u8 0, .slice none 0 0, .slice none 0 0, .int .u8 0, .int .u8 0, .int .u32 0, .slice none 0 0, .slice none 0 0]) := ⟨_, rfl⟩
    obtain ⟨w4, hw4⟩ := hw4
    have hk4 : Kept S0 w2 w4 := by rw [hw4]; exact (((Kept.refl S0 w2).alloc _).alloc _).setRow (.inr (Nat.le_succ _)) _
    have hw : Blk w4 (w2.heap.size + 1) 70 #[.int .u16 (xop : Int), .int .u32 0, .int .u32 0, .int .u64 0, .int .u8 0, .int .u8 0, .int .u8 0, .int .u8 0, .int .u8 0, .int .u8 0, .int .u8 0, .int .u8 0, .int .u8 0, .int .u8 0, .int .u8 0, .int .u8 0, .int .u8 0, .int .u8 0, .int .u8 0, .int .u8 0, .slice none 0 0, .slice none 0 0, .int .u8 0, .int .u8 0, .int .u32 0, .slice none 0 0, .slice none 0 0] := by rw [hw4]; exact hz3.setRow _
    have hinfo : w4.cell? ⟨w2.heap.size, 2, none⟩ = some (.int .u8 (imm : Int)) := by
      rw [hw4]
      exact ((((Blk.new w2 129 #[.int .u16 (xop : Int), .string name, .int .u8 (imm : Int), .slice Af nf cf, .slice At nt ct, .int .i64 (bits : Int), .bool plain]).alloc _).setRowFar (by omega) _).cell 2)
    rw [← hw4]
    clear hw4 c2 hz3 hz4
    have HK4 := Lib.hid (HK2.out.then0 hk4)
    have HX4 := Lib.hid (HX2.out.kept0 hk4)
    have HB4 := Lib.hid (hk4.blk HB2.out (fun x => x))
    have HW4 := Lib.hid hw
    have HWL := Lib.hid (show w.heap.size ≤ w2.heap.size + 1 by have := HGL.out; omega)
    have HWB := Lib.hid (show g < w2.heap.size + 1 ∧ g = w.heap.size from ⟨by have := HGL.out; omega, hg.symm⟩)
    clear hk4 hw HK2 HX2 HB2 HGL
    generalize w2.heap.size = wi at *
    have x22 : w4.cell? ⟨g, 22, none⟩ = some (.int .u8 (xbk : Int)) := HB4.out.cell 22
    have x23 : w4.cell? ⟨g, 23, none⟩ = some (.int .u8 (xbv : Int)) := HB4.out.cell 23
    have x24 : w4.cell? ⟨g, 24, none⟩ = some (.int .u32 (xbt : Int)) := HB4.out.cell 24
    have x25 : w4.cell? ⟨g, 25, none⟩ = some (.slice xbA xbn xbc) := HB4.out.cell 25
    have q22 : w4.frozen? ⟨wi + 1, 22, none⟩ = false := HW4.out.frozen 22
    have z22 := HW4.out.cell 22
    have q23 : w4.frozen? ⟨wi + 1, 23, none⟩ = false := HW4.out.frozen 23
    have z23 := HW4.out.cell 23
    have q24 : w4.frozen? ⟨wi + 1, 24, none⟩ = false := HW4.out.frozen 24
    have z24 := HW4.out.cell 24
    have q25 : w4.frozen? ⟨wi + 1, 25, none⟩ = false := HW4.out.frozen 25
    have z25 := HW4.out.cell 25
    have hk := HKK.out
    have HRR := Lib.hid (show fitsI ⟨xop, xa, xb, xn, xv, xlA, xln, xlc, xtA, xtn, xtc, xbk, xbv, xbt, xbA, xbn, xbc, xeA, xen, xec⟩ L T imm = (rightP xbk xbv xbt && flatP (⟨xop, 0, 0, 0, fun _ => 0, none, 0, 0, none, 0, 0, xbk, xbv, xbt, xbA, xbn, xbc, none, 0, 0⟩ : IC) [] [] ⟨xop, xa, xb, xn, xv, xlA, xln, xlc, xtA, xtn, xtc, xbk, xbv, xbt, xbA, xbn, xbc, xeA, xen, xec⟩ L T && (xbn : Nat) == xbn && (0 : Nat) == xen) from by rcases hk with rfl <;> simp [fitsI, okP, restP, wantP, wantZ, Bool.and_assoc, show ¬ xop = 4 from H4.out])
    subst hk
    go_upto_region 7 with fail
    go_region
    have hwf : Blk ((((w4.setCell ⟨wi + 1, 22, none⟩ (.int .u8 (xbk : Int))).setCell ⟨wi + 1, 23, none⟩ (.int .u8 (xbv : Int))).setCell ⟨wi + 1, 24, none⟩ (.int .u32 (xbt : Int))).setCell ⟨wi + 1, 25, none⟩ (.slice xbA xbn xbc)).drew (wi + 1) 70 #[.int .u16 (xop : Int), .int .u32 0, .int .u32 0, .int .u64 0, .int .u8 0, .int .u8 0, .int .u8 0, .int .u8 0, .int .u8 0, .int .u8 0, .int .u8 0, .int .u8 0, .int .u8 0, .int .u8 0, .int .u8 0, .int .u8 0, .int .u8 0, .int .u8 0, .int .u8 0, .int .u8 0, .slice none 0 0, .slice none 0 0, .int .u8 (xbk : Int), .int .u8 (xbv : Int), .int .u32 (xbt : Int), .slice xbA xbn xbc, .slice none 0 0] := ((((HW4.out.set_ 22 (.int .u8 (xbk : Int))).set_ 23 (.int .u8 (xbv : Int))).set_ 24 (.int .u32 (xbt : Int))).set_ 25 (.slice xbA xbn xbc))
    have hkf : Kept S0 w ((((w4.setCell ⟨wi + 1, 22, none⟩ (.int .u8 (xbk : Int))).setCell ⟨wi + 1, 23, none⟩ (.int .u8 (xbv : Int))).setCell ⟨wi + 1, 24, none⟩ (.int .u32 (xbt : Int))).setCell ⟨wi + 1, 25, none⟩ (.slice xbA xbn xbc)).drew := Kept.drew <| ((((HK4.out.setCell (p := ⟨wi + 1, 22, none⟩) (.inr HWL.out) (.int .u8 (xbk : Int))).setCell (p := ⟨wi + 1, 23, none⟩) (.inr HWL.out) (.int .u8 (xbv : Int))).setCell (p := ⟨wi + 1, 24, none⟩) (.inr HWL.out) (.int .u32 (xbt : Int))).setCell (p := ⟨wi + 1, 25, none⟩) (.inr HWL.out) (.slice xbA xbn xbc))
    have hk1 : Kept (S1 (wi + 1)) w4 ((((w4.setCell ⟨wi + 1, 22, none⟩ (.int .u8 (xbk : Int))).setCell ⟨wi + 1, 23, none⟩ (.int .u8 (xbv : Int))).setCell ⟨wi + 1, 24, none⟩ (.int .u32 (xbt : Int))).setCell ⟨wi + 1, 25, none⟩ (.slice xbA xbn xbc)).drew := Kept.drew <| (((((Kept.refl (S1 (wi + 1)) w4).setCell (p := ⟨wi + 1, 22, none⟩) (.inl rfl) (.int .u8 (xbk : Int))).setCell (p := ⟨wi + 1, 23, none⟩) (.inl rfl) (.int .u8 (xbv : Int))).setCell (p := ⟨wi + 1, 24, none⟩) (.inl rfl) (.int .u32 (xbt : Int))).setCell (p := ⟨wi + 1, 25, none⟩) (.inl rfl) (.slice xbA xbn xbc))
    have hxf : Blk ((((w4.setCell ⟨wi + 1, 22, none⟩ (.int .u8 (xbk : Int))).setCell ⟨wi + 1, 23, none⟩ (.int .u8 (xbv : Int))).setCell ⟨wi + 1, 24, none⟩ (.int .u32 (xbt : Int))).setCell ⟨wi + 1, 25, none⟩ (.slice xbA xbn xbc)).drew g 70 #[.int .u16 (xop : Int), .int .u32 (xa : Int), .int .u32 (xb : Int), .int .u64 (xn : Int), .int .u8 ((xv 0).toNat : Int), .int .u8 ((xv 1).toNat : Int), .int .u8 ((xv 2).toNat : Int), .int .u8 ((xv 3).toNat : Int), .int .u8 ((xv 4).toNat : Int), .int .u8 ((xv 5).toNat : Int), .int .u8 ((xv 6).toNat : Int), .int .u8 ((xv 7).toNat : Int), .int .u8 ((xv 8).toNat : Int), .int .u8 ((xv 9).toNat : Int), .int .u8 ((xv 10).toNat : Int), .int .u8 ((xv 11).toNat : Int), .int .u8 ((xv 12).toNat : Int), .int .u8 ((xv 13).toNat : Int), .int .u8 ((xv 14).toNat : Int), .int .u8 ((xv 15).toNat : Int), .slice xlA xln xlc, .slice xtA xtn xtc, .int .u8 (xbk : Int), .int .u8 (xbv : Int), .int .u32 (xbt : Int), .slice xbA xbn xbc, .slice xeA xen xec] := hk1.blk HB4.out (fun e => by have e' : g = wi + 1 := e; have := HWB.out.1; omega)
    have HWq := Lib.hid hwf
    have HXq := Lib.hid hxf
    have HKq := Lib.hid hkf
    clear hwf hxf hkf hk1 x22 x23 x24 x25 q22 q23 q24 q25 z22 z23 z24 z25
    generalize ((((w4.setCell ⟨wi + 1, 22, none⟩ (.int .u8 (xbk : Int))).setCell ⟨wi + 1, 23, none⟩ (.int .u8 (xbv : Int))).setCell ⟨wi + 1, 24, none⟩ (.int .u32 (xbt : Int))).setCell ⟨wi + 1, 25, none⟩ (.slice xbA xbn xbc)).drew = wq at *
    have HRB := Lib.hid (fun w => rblock_any xbk xbv xbt w)
    have hq : ((xop : Int) == 4) = false := by have := H4.out; simp; omega
    have hqq : ¬ (xop : Int) = 4 := by have := H4.out; omega
    have HQQ := Lib.hid hqq
    have x0 : wq.cell? ⟨g, 0, none⟩ = some (.int .u16 (xop : Int)) := HXq.out.cell 0
    have x22 : wq.cell? ⟨g, 22, none⟩ = some (.int .u8 (xbk : Int)) := HXq.out.cell 22
    have x23 : wq.cell? ⟨g, 23, none⟩ = some (.int .u8 (xbv : Int)) := HXq.out.cell 23
    have x24 : wq.cell? ⟨g, 24, none⟩ = some (.int .u32 (xbt : Int)) := HXq.out.cell 24
    have HX9 := Lib.hid HXq.out
    have HW9 := Lib.hid HWq.out
    have HK9 := Lib.hid HKq.out
    by_cases hok : rightP xbk xbv xbt = true
    · have h0 := HRR.out
      rw [hok, Bool.true_and] at h0
      replace HRR := Lib.hid h0
      rw [hok] at HRB
      clear h0 hok
      go_upto_region 52 with (go_at_call 78; refine (HRB.out _).mono ?_; rintro e w6 ⟨rfl, hkr⟩)
      all_goals first | (exfalso; have := HQQ.out; omega) | (exfalso; have := HQQ.out; contradiction) | skip
      have hwf := hkr.blk HW9.out (fun x => x)
      have hxf := hkr.blk HX9.out (fun x => x)
      have hkf := HK9.out.then0 hkr
      clear hkr
      have hins : InsC w6 ⟨xop, xa, xb, xn, xv, xlA, xln, xlc, xtA, xtn, xtc, xbk, xbv, xbt, xbA, xbn, xbc, xeA, xen, xec⟩ L T := HX.out.kept0 hkf
      have HINS := Lib.hid hins
      have HXF := Lib.hid hxf
      have HWF := Lib.hid hwf
      have HKF := Lib.hid hkf
      clear hxf hwf hkf hins
      generalize hwz : w6 = w5 at *
      clear hwz
      have HF := Lib.hid (flat_any (⟨xop, 0, 0, 0, fun _ => 0, none, 0, 0, none, 0, 0, xbk, xbv, xbt, xbA, xbn, xbc, none, 0, 0⟩ : IC) ⟨xop, xa, xb, xn, xv, xlA, xln, xlc, xtA, xtn, xtc, xbk, xbv, xbt, xbA, xbn, xbc, xeA, xen, xec⟩ [] [] L T w5 ⟨SlL.zero _ 1, SlL.zero _ 1⟩ HINS.out ⟨Nat.zero_le _, Nat.zero_le _, HLE.out.ln, HLE.out.tn⟩)
      generalize flatP (⟨xop, 0, 0, 0, fun _ => 0, none, 0, 0, none, 0, 0, xbk, xbv, xbt, xbA, xbn, xbc, none, 0, 0⟩ : IC) [] [] ⟨xop, xa, xb, xn, xv, xlA, xln, xlc, xtA, xtn, xtc, xbk, xbv, xbt, xbA, xbn, xbc, xeA, xen, xec⟩ L T = fb at *
      have e1 : IC.arr (⟨xop, 0, 0, 0, fun _ => 0, none, 0, 0, none, 0, 0, xbk, xbv, xbt, xbA, xbn, xbc, none, 0, 0⟩ : IC) = #[.int .u16 (xop : Int), .int .u32 0, .int .u32 0, .int .u64 0, .int .u8 0, .int .u8 0, .int .u8 0, .int .u8 0, .int .u8 0, .int .u8 0, .int .u8 0, .int .u8 0, .int .u8 0, .int .u8 0, .int .u8 0, .int .u8 0, .int .u8 0, .int .u8 0, .int .u8 0, .int .u8 0, .slice none 0 0, .slice none 0 0, .int .u8 (xbk : Int), .int .u8 (xbv : Int), .int .u32 (xbt : Int), .slice xbA xbn xbc, .slice none 0 0] := by unfold IC.arr; rfl
      rw [e1] at HF
      clear e1
      unfold IC.arr at HF
      refine wp_region_list ?_
      refine wpList_load_row rfl 70 _ rfl (wi + 1) rfl 70 #[.int .u16 (xop : Int), .int .u32 0, .int .u32 0, .int .u64 0, .int .u8 0, .int .u8 0, .int .u8 0, .int .u8 0, .int .u8 0, .int .u8 0, .int .u8 0, .int .u8 0, .int .u8 0, .int .u8 0, .int .u8 0, .int .u8 0, .int .u8 0, .int .u8 0, .int .u8 0, .int .u8 0, .slice none 0 0, .slice none 0 0, .int .u8 (xbk : Int), .int .u8 (xbv : Int), .int .u32 (xbt : Int), .slice xbA xbn xbc, .slice none 0 0] (0, 0) _ HWF.out Tryd.underlying70 rfl (by kernel_rfl) ?_
      refine wpList_load_row rfl 70 _ rfl g rfl 70 #[.int .u16 (xop : Int), .int .u32 (xa : Int), .int .u32 (xb : Int), .int .u64 (xn : Int), .int .u8 ((xv 0).toNat : Int), .int .u8 ((xv 1).toNat : Int), .int .u8 ((xv 2).toNat : Int), .int .u8 ((xv 3).toNat : Int), .int .u8 ((xv 4).toNat : Int), .int .u8 ((xv 5).toNat : Int), .int .u8 ((xv 6).toNat : Int), .int .u8 ((xv 7).toNat : Int), .int .u8 ((xv 8).toNat : Int), .int .u8 ((xv 9).toNat : Int), .int .u8 ((xv 10).toNat : Int), .int .u8 ((xv 11).toNat : Int), .int .u8 ((xv 12).toNat : Int), .int .u8 ((xv 13).toNat : Int), .int .u8 ((xv 14).toNat : Int), .int .u8 ((xv 15).toNat : Int), .slice xlA xln xlc, .slice xtA xtn xtc, .int .u8 (xbk : Int), .int .u8 (xbv : Int), .int .u32 (xbt : Int), .slice xbA xbn xbc, .slice xeA xen xec] (0, 0) _ HXF.out Tryd.underlying70 rfl (by kernel_rfl) ?_
      simp only [Act.put, List.setIfInBounds_toArray, List.set_cons_zero, List.set_cons_succ]
      go_wp2_with fail
      refine HF.out.mono ?_
      rintro e w6 ⟨rfl, hk6⟩
      have y8 : w6.cell? ⟨wi + 1, 25, none⟩ = some (.slice xbA xbn xbc) := (hk6.blk HWF.out (fun x => x)).cell 25
      have y9 : w6.cell? ⟨wi + 1, 26, none⟩ = some (.slice none 0 0) := (hk6.blk HWF.out (fun x => x)).cell 26
      have x8 : w6.cell? ⟨g, 25, none⟩ = some (.slice xbA xbn xbc) := (hk6.blk HXF.out (fun x => x)).cell 25
      have x9 : w6.cell? ⟨g, 26, none⟩ = some (.slice xeA xen xec) := (hk6.blk HXF.out (fun x => x)).cell 26
      have HKZ := Lib.hid (HKF.out.then0 hk6)
      have HQ := Lib.hid (show ∀ n : Nat, ((0 : Int) == (n : Int)) = ((0 : Nat) == n) from fun n => by rw [Bool.eq_iff_iff]; simp; omega)
      clear hk6
      cases fb with
      | false =>
        go_wp2_with fail
        go_ret
        exact ⟨ret_bool (by rw [HRR.out]; rfl), HKZ.out⟩
      | true =>
        go_wp2_with fail
        all_goals
          go_ret
          exact ⟨ret_bool (by rw [HRR.out, Bool.eq_iff_iff]; first | (simp; done) | (simp; omega)), HKZ.out⟩
    · have hok' : rightP xbk xbv xbt = false := by simpa using hok
      have h0 := HRR.out
      rw [hok'] at h0
      simp only [Bool.false_and] at h0
      have H0 := Lib.hid h0
      rw [hok'] at HRB
      clear h0 hok hok'
      go_wp2_with (go_at_call 78; refine (HRB.out _).mono ?_; rintro e w6 ⟨rfl, hkr⟩)
      all_goals first | (exfalso; have := HQQ.out; omega) | (exfalso; have := HQQ.out; contradiction) | skip
      go_ret
      exact ⟨ret_bool H0.out.symm, HK9.out.then0 hkr⟩
end Go.Proofs.YtfmblalbcodpmaaDoor
namespace Go.Proofs.YtfmblalbcodpmaaDoor
open Go.RowKit
set_option maxRecDepth 100000 in
set_option maxHeartbeats 16000000 in
theorem fits_l (x : IC) (L T : List Nat) (w : World) (hx : InsC w x L T) (hle : ICle x) (hsp : SpTab w) (imm bits shp : Nat) (from_ to_ : List Nat) (hi : inf x.op = some (imm, bits, shp, from_, to_)) (hk : imm = 18) :
    Calls Tryd.prog 53 #[.agg x.arr] w fun e w' => e = .returned (.bool (fitsI x L T imm)) ∧ Kept S0 w w' := by
  have hka : Kept S0 w (w.alloc (.cells x.arr 70)) := (Kept.refl S0 w).alloc _
  have hb1 : Blk (w.alloc (.cells x.arr 70)) w.heap.size 70 x.arr := Blk.new w _ _
  have HX := Lib.hid hx
  have HKA := Lib.hid hka
  have HSP := Lib.hid hsp
  have HO := Lib.hid (fun w' hs => of_any x.op w' hle.op hs)
  have hop := hle.op
  have HLE := Lib.hid hle
  have HI := Lib.hid hi
  have HKK := Lib.hid hk
  clear hx hka hsp hle hi hk
  unfold IC.arr at *
  obtain ⟨xop, xa, xb, xn, xv, xlA, xln, xlc, xtA, xtn, xtc, xbk, xbv, xbt, xbA, xbn, xbc, xeA, xen, xec⟩ := x
  simp only at *
  have HB1 := Lib.hid hb1
  have c0 : (w.alloc (.cells #[.int .u16 (xop : Int), .int .u32 (xa : Int), .int .u32 (xb : Int), .int .u64 (xn : Int), .int .u8 ((xv 0).toNat : Int), .int .u8 ((xv 1).toNat : Int), .int .u8 ((xv 2).toNat : Int), .int .u8 ((xv 3).toNat : Int), .int .u8 ((xv 4).toNat : Int), .int .u8 ((xv 5).toNat : Int), .int .u8 ((xv 6).toNat : Int), .int .u8 ((xv 7).toNat : Int), .int .u8 ((xv 8).toNat : Int), .int .u8 ((xv 9).toNat : Int), .int .u8 ((xv 10).toNat : Int), .int .u8 ((xv 11).toNat : Int), .int .u8 ((xv 12).toNat : Int), .int .u8 ((xv 13).toNat : Int), .int .u8 ((xv 14).toNat : Int), .int .u8 ((xv 15).toNat : Int), .slice xlA xln xlc, .slice xtA xtn xtc, .int .u8 (xbk : Int), .int .u8 (xbv : Int), .int .u32 (xbt : Int), .slice xbA xbn xbc, .slice xeA xen xec] 70)).cell? ⟨w.heap.size, 0, none⟩ = some (.int .u16 (xop : Int)) := hb1.cell 0
  clear hb1
  go_enter Tryd.func53, Tryd.ntmps53
  go_wp2_with fail
  generalize (w.alloc (.cells #[.int .u16 (xop : Int), .int .u32 (xa : Int), .int .u32 (xb : Int), .int .u64 (xn : Int), .int .u8 ((xv 0).toNat : Int), .int .u8 ((xv 1).toNat : Int), .int .u8 ((xv 2).toNat : Int), .int .u8 ((xv 3).toNat : Int), .int .u8 ((xv 4).toNat : Int), .int .u8 ((xv 5).toNat : Int), .int .u8 ((xv 6).toNat : Int), .int .u8 ((xv 7).toNat : Int), .int .u8 ((xv 8).toNat : Int), .int .u8 ((xv 9).toNat : Int), .int .u8 ((xv 10).toNat : Int), .int .u8 ((xv 11).toNat : Int), .int .u8 ((xv 12).toNat : Int), .int .u8 ((xv 13).toNat : Int), .int .u8 ((xv 14).toNat : Int), .int .u8 ((xv 15).toNat : Int), .slice xlA xln xlc, .slice xtA xtn xtc, .int .u8 (xbk : Int), .int .u8 (xbv : Int), .int .u32 (xbt : Int), .slice xbA xbn xbc, .slice xeA xen xec] 70)) = w1 at *
  have HSZ := Lib.hid (show w.heap.size < w1.heap.size from HB1.out.lt)
  generalize hg : w.heap.size = g at *
  refine (HO.out w1 (HSP.out.kept0 HKA.out)).mono ?_
  rintro e w2 ⟨hk2, ⟨hi, rfl⟩ | ⟨i, name, plain, vf, vt, hi, rfl, hinf⟩⟩
  · rw [HI.out] at hi
    cases hi
  · rw [HI.out] at hi
    obtain rfl := Option.some.inj hi
    obtain ⟨Af, cf, rfl, _⟩ := hinf.from_.out
    obtain ⟨At, ct, rfl, _⟩ := hinf.to_.out
    simp only
    have HK2 := Lib.hid (HKA.out.then0 hk2)
    have HX2 := Lib.hid (HX.out.kept0 (HKA.out.then0 hk2))
    have hb2 := hk2.blk HB1.out (fun x => x)
    have HB2 := Lib.hid hb2
    generalize from_.length = nf at *
    generalize to_.length = nt at *
    have c2 : (w2.alloc (.cells #[.int .u16 (xop : Int), .string name, .int .u8 (imm : Int), .slice Af nf cf, .slice At nt ct, .int .i64 (bits : Int), .bool plain] 129)).cell? ⟨g, 0, none⟩ = some (.int .u16 (xop : Int)) := (hb2.alloc _).cell 0
    have HGL := Lib.hid (show g < w2.heap.size from hb2.lt)
    clear hk2 c0 hinf hb2 hi HO
    have hz3 : Blk ((w2.alloc (.cells #[.int .u16 (xop : Int), .string name, .int .u8 (imm : Int), .slice Af nf cf, .slice At nt ct, .int .i64 (bits : Int), .bool plain] 129)).alloc (.cells #[.int .u16 0, .int .u32 0, .int .u32 0, .int .u64 0, .int .u8 0, .int .u8 0, .int .u8 0, .int .u8 0, .int .u8 0, .int .u8 0, .int .u8 0, .int .u8 0, .int .u8 0, .int .u8 0, .int .u8 0, .int .u8 0, .int .u8 0, .int .u8 0, .int .u8 0, .int .u8 0, .slice none 0 0, .slice none 0 0, .int .u8 0, .int .u8 0, .int .u32 0, .slice none 0 0, .slice none 0 0] 70)) (w2.heap.size + 1) 70 #[.int .u16 0, .int .u32 0, .int .u32 0, .int .u64 0, .int .u8 0, .int .u8 0, .int .u8 0, .int .u8 0, .int .u8 0, .int .u8 0, .int .u8 0, .int .u8 0, .int .u8 0, .int .u8 0, .int .u8 0, .int .u8 0, .int .u8 0, .int .u8 0, .int .u8 0, .int .u8 0, .slice none 0 0, .slice none 0 0, .int .u8 0, .int .u8 0, .int .u32 0, .slice none 0 0, .slice none 0 0] := Blk.new1 w2 _ _ _
    have hz4 := hz3
    unfold Blk at hz4
    go_upto_region 5 with (refine wpList_store_row rfl 70 _ _ rfl (w2.heap.size + 1) #[.int .u16 (xop : Int), .int .u32 0, .int .u32 0, .int .u64 0, .int .u8 0, .int .u8 0, .int .u8 0, .int .u8 0, .int .u8 0, .int .u8 0, .int .u8 0, .int .u8 0, .int .u8 0, .int .u8 0, .int .u8 0, .int .u8 0, .int .u8 0, .int .u8 0, .int .u8 0, .int .u8 0, .slice none 0 0, .slice none 0 0, .int .u8 0, .int .u8 0, .int .u32 0, .slice none 0 0, .slice none 0 0] rfl rfl 70 #[.int .u16 0, .int .u32 0, .int .u32 0, .int .u64 0, .int .u8 0, .int .u8 0, .int .u8 0, .int .u8 0, .int .u8 0, .int .u8 0, .int .u8 0, .int .u8 0, .int .u8 0, .int .u8 0, .int .u8 0, .int .u8 0, .int .u8 0, .int .u8 0, .int .u8 0, .int .u8 0, .slice none 0 0, .slice none 0 0, .int .u8 0, .int .u8 0, .int .u32 0, .slice none 0 0, .slice none 0 0] hz4 (by kernel_rfl) rfl (by kernel_rfl) ?_)
    have hw4 : ∃ w4, w4 = (((w2.alloc (.cells #[.int .u16 (xop : Int), .string name, .int .u8 (imm : Int), .slice Af nf cf, .slice At nt ct, .int .i64 (bits : Int), .bool plain] 129)).alloc (.cells #[.int .u16 0, .int .u32 0, .int .u32 0, .int .u64 0, .int .u8 0, .int .u8 0, .int .u8 0, .int .u8 0, .int .u8 0, .int .u8 0, .int .u8 0, .int .u8 0, .int .u8 0, .int .u8 0, .int .u8 0, .int .u8 0, .int .u8 0, .int .u8 0, .int .u8 0, .int .u8 0, .slice none 0 0, .slice none 0 0, .int .u8 0, .int .u8 0, .int .u32 0, .slice none 0 0, .slice none 0 0] 70)).setRow (w2.heap.size + 1) #[.int .u16 (xop : Int), .int .u32 0, .int .u32 0, .int .u64 0, .int .u8 0, .int .u8 0, .int .u8 0, .int .u8 0, .int .u8 0, .int .u8 0, .int .u8 0, .int .u8 0, .int .u8 0, .int .u8 0, .int .u8 0, .int .u8 0, .int .u8 0, .int .u8 0, .int .u8 0, .int .u8 0, .slice none 0 0, .slice none 0 0, .int .u8 0, .int .u8 0, .int .u32 0, .slice none 0 0, .slice none 0 0]) := ⟨_, rfl⟩
    obtain ⟨w4, hw4⟩ := hw4
    have hk4 : Kept S0 w2 w4 := by rw [hw4]; exact (((Kept.refl S0 w2).alloc _).alloc _).setRow (.inr (Nat.le_succ _)) _
    have hw : Blk w4 (w2.heap.size + 1) 70 #[.int .u16 (xop : Int), .int .u32 0, .int .u32 0, .int .u64 0, .int .u8 0, .int .u8 0, .int .u8 0, .int .u8 0, .int .u8 0, .int .u8 0, .int .u8 0, .int .u8 0, .int .u8 0, .int .u8 0, .int .u8 0, .int .u8 0, .int .u8 0, .int .u8 0, .int .u8 0, .int .u8 0, .slice none 0 0, .slice none 0 0, .int .u8 0, .int .u8 0, .int .u32 0, .slice none 0 0, .slice none 0 0] := by rw [hw4]; exact hz3.setRow _
    have hinfo : w4.cell? ⟨w2.heap.size, 2, none⟩ = some (.int .u8 (imm : Int)) := by
      rw [hw4]
      exact ((((Blk.new w2 129 #[.int .u16 (xop : Int), .string name, .int .u8 (imm : Int), .slice Af nf cf, .slice At nt ct, .int .i64 (bits : Int), .bool plain]).alloc _).setRowFar (by omega) _).cell 2)
    rw [← hw4]
    clear hw4 c2 hz3 hz4
    have HK4 := Lib.hid (HK2.out.then0 hk4)
    have HX4 := Lib.hid (HX2.out.kept0 hk4)
    have HB4 := Lib.hid (hk4.blk HB2.out (fun x => x))
    have HW4 := Lib.hid hw
    have HWL := Lib.hid (show w.heap.size ≤ w2.heap.size + 1 by have := HGL.out; omega)
    have HWB := Lib.hid (show g < w2.heap.size + 1 ∧ g = w.heap.size from ⟨by have := HGL.out; omega, hg.symm⟩)
    clear hk4 hw HK2 HX2 HB2 HGL
    generalize w2.heap.size = wi at *
    have x2 : w4.cell? ⟨g, 2, none⟩ = some (.int .u32 (xb : Int)) := HB4.out.cell 2
    have q2 : w4.frozen? ⟨wi + 1, 2, none⟩ = false := HW4.out.frozen 2
    have z2 := HW4.out.cell 2
    have ub := and_u32 xb
    obtain ⟨bm, hbm⟩ : ∃ bm, xb % 256 = bm := ⟨_, rfl⟩
    rw [hbm] at ub
    have hk := HKK.out
    have HRR := Lib.hid (show fitsI ⟨xop, xa, xb, xn, xv, xlA, xln, xlc, xtA, xtn, xtc, xbk, xbv, xbt, xbA, xbn, xbc, xeA, xen, xec⟩ L T imm = (flatP (⟨xop, 0, bm, 0, fun _ => 0, none, 0, 0, none, 0, 0, 0, 0, 0, none, 0, 0, none, 0, 0⟩ : IC) [] [] ⟨xop, xa, xb, xn, xv, xlA, xln, xlc, xtA, xtn, xtc, xbk, xbv, xbt, xbA, xbn, xbc, xeA, xen, xec⟩ L T && (0 : Nat) == xbn && (0 : Nat) == xen) from by rcases hk with rfl <;> simp [fitsI, okP, restP, wantP, wantZ, hbm])
    clear hbm
    subst hk
    iterate 1
      go_upto_region 52 with fail
      have hwf : Blk (w4.setCell ⟨wi + 1, 2, none⟩ (.int .u32 (bm : Int))) (wi + 1) 70 #[.int .u16 (xop : Int), .int .u32 0, .int .u32 (bm : Int), .int .u64 0, .int .u8 0, .int .u8 0, .int .u8 0, .int .u8 0, .int .u8 0, .int .u8 0, .int .u8 0, .int .u8 0, .int .u8 0, .int .u8 0, .int .u8 0, .int .u8 0, .int .u8 0, .int .u8 0, .int .u8 0, .int .u8 0, .slice none 0 0, .slice none 0 0, .int .u8 0, .int .u8 0, .int .u32 0, .slice none 0 0, .slice none 0 0] := (HW4.out.set_ 2 (.int .u32 (bm : Int)))
      have hkf : Kept S0 w (w4.setCell ⟨wi + 1, 2, none⟩ (.int .u32 (bm : Int))) := (HK4.out.setCell (p := ⟨wi + 1, 2, none⟩) (.inr HWL.out) (.int .u32 (bm : Int)))
      have hk1 : Kept (S1 (wi + 1)) w4 (w4.setCell ⟨wi + 1, 2, none⟩ (.int .u32 (bm : Int))) := ((Kept.refl (S1 (wi + 1)) w4).setCell (p := ⟨wi + 1, 2, none⟩) (.inl rfl) (.int .u32 (bm : Int)))
      have hxf : Blk (w4.setCell ⟨wi + 1, 2, none⟩ (.int .u32 (bm : Int))) g 70 #[.int .u16 (xop : Int), .int .u32 (xa : Int), .int .u32 (xb : Int), .int .u64 (xn : Int), .int .u8 ((xv 0).toNat : Int), .int .u8 ((xv 1).toNat : Int), .int .u8 ((xv 2).toNat : Int), .int .u8 ((xv 3).toNat : Int), .int .u8 ((xv 4).toNat : Int), .int .u8 ((xv 5).toNat : Int), .int .u8 ((xv 6).toNat : Int), .int .u8 ((xv 7).toNat : Int), .int .u8 ((xv 8).toNat : Int), .int .u8 ((xv 9).toNat : Int), .int .u8 ((xv 10).toNat : Int), .int .u8 ((xv 11).toNat : Int), .int .u8 ((xv 12).toNat : Int), .int .u8 ((xv 13).toNat : Int), .int .u8 ((xv 14).toNat : Int), .int .u8 ((xv 15).toNat : Int), .slice xlA xln xlc, .slice xtA xtn xtc, .int .u8 (xbk : Int), .int .u8 (xbv : Int), .int .u32 (xbt : Int), .slice xbA xbn xbc, .slice xeA xen xec] := hk1.blk HB4.out (fun e => by have e' : g = wi + 1 := e; have := HWB.out.1; omega)
      have hins : InsC (w4.setCell ⟨wi + 1, 2, none⟩ (.int .u32 (bm : Int))) ⟨xop, xa, xb, xn, xv, xlA, xln, xlc, xtA, xtn, xtc, xbk, xbv, xbt, xbA, xbn, xbc, xeA, xen, xec⟩ L T := HX.out.kept0 hkf
      have HINS := Lib.hid hins
      have HXF := Lib.hid hxf
      have HWF := Lib.hid hwf
      have HKF := Lib.hid hkf
      clear hxf hwf hkf hk1 hins
      generalize hwz : (w4.setCell ⟨wi + 1, 2, none⟩ (.int .u32 (bm : Int))) = w5 at *
      clear hwz
      have HF := Lib.hid (flat_any (⟨xop, 0, bm, 0, fun _ => 0, none, 0, 0, none, 0, 0, 0, 0, 0, none, 0, 0, none, 0, 0⟩ : IC) ⟨xop, xa, xb, xn, xv, xlA, xln, xlc, xtA, xtn, xtc, xbk, xbv, xbt, xbA, xbn, xbc, xeA, xen, xec⟩ [] [] L T w5 ⟨SlL.zero _ 1, SlL.zero _ 1⟩ HINS.out ⟨Nat.zero_le _, Nat.zero_le _, HLE.out.ln, HLE.out.tn⟩)
      generalize flatP (⟨xop, 0, bm, 0, fun _ => 0, none, 0, 0, none, 0, 0, 0, 0, 0, none, 0, 0, none, 0, 0⟩ : IC) [] [] ⟨xop, xa, xb, xn, xv, xlA, xln, xlc, xtA, xtn, xtc, xbk, xbv, xbt, xbA, xbn, xbc, xeA, xen, xec⟩ L T = fb at *
      have e1 : IC.arr (⟨xop, 0, bm, 0, fun _ => 0, none, 0, 0, none, 0, 0, 0, 0, 0, none, 0, 0, none, 0, 0⟩ : IC) = #[.int .u16 (xop : Int), .int .u32 0, .int .u32 (bm : Int), .int .u64 0, .int .u8 0, .int .u8 0, .int .u8 0, .int .u8 0, .int .u8 0, .int .u8 0, .int .u8 0, .int .u8 0, .int .u8 0, .int .u8 0, .int .u8 0, .int .u8 0, .int .u8 0, .int .u8 0, .int .u8 0, .int .u8 0, .slice none 0 0, .slice none 0 0, .int .u8 0, .int .u8 0, .int .u32 0, .slice none 0 0, .slice none 0 0] := by unfold IC.arr; rfl
      rw [e1] at HF
      clear e1
      unfold IC.arr at HF
      refine wp_region_list ?_
      refine wpList_load_row rfl 70 _ rfl (wi + 1) rfl 70 #[.int .u16 (xop : Int), .int .u32 0, .int .u32 (bm : Int), .int .u64 0, .int .u8 0, .int .u8 0, .int .u8 0, .int .u8 0, .int .u8 0, .int .u8 0, .int .u8 0, .int .u8 0, .int .u8 0, .int .u8 0, .int .u8 0, .int .u8 0, .int .u8 0, .int .u8 0, .int .u8 0, .int .u8 0, .slice none 0 0, .slice none 0 0, .int .u8 0, .int .u8 0, .int .u32 0, .slice none 0 0, .slice none 0 0] (0, 0) _ HWF.out Tryd.underlying70 rfl (by kernel_rfl) ?_
      refine wpList_load_row rfl 70 _ rfl g rfl 70 #[.int .u16 (xop : Int), .int .u32 (xa : Int), .int .u32 (xb : Int), .int .u64 (xn : Int), .int .u8 ((xv 0).toNat : Int), .int .u8 ((xv 1).toNat : Int), .int .u8 ((xv 2).toNat : Int), .int .u8 ((xv 3).toNat : Int), .int .u8 ((xv 4).toNat : Int), .int .u8 ((xv 5).toNat : Int), .int .u8 ((xv 6).toNat : Int), .int .u8 ((xv 7).toNat : Int), .int .u8 ((xv 8).toNat : Int), .int .u8 ((xv 9).toNat : Int), .int .u8 ((xv 10).toNat : Int), .int .u8 ((xv 11).toNat : Int), .int .u8 ((xv 12).toNat : Int), .int .u8 ((xv 13).toNat : Int), .int .u8 ((xv 14).toNat : Int), .int .u8 ((xv 15).toNat : Int), .slice xlA xln xlc, .slice xtA xtn xtc, .int .u8 (xbk : Int), .int .u8 (xbv : Int), .int .u32 (xbt : Int), .slice xbA xbn xbc, .slice xeA xen xec] (0, 0) _ HXF.out Tryd.underlying70 rfl (by kernel_rfl) ?_
      simp only [Act.put, List.setIfInBounds_toArray, List.set_cons_zero, List.set_cons_succ]
      go_wp2_with fail
      refine HF.out.mono ?_
      rintro e w6 ⟨rfl, hk6⟩
      have y8 : w6.cell? ⟨wi + 1, 25, none⟩ = some (.slice none 0 0) := (hk6.blk HWF.out (fun x => x)).cell 25
      have y9 : w6.cell? ⟨wi + 1, 26, none⟩ = some (.slice none 0 0) := (hk6.blk HWF.out (fun x => x)).cell 26
      have x8 : w6.cell? ⟨g, 25, none⟩ = some (.slice xbA xbn xbc) := (hk6.blk HXF.out (fun x => x)).cell 25
      have x9 : w6.cell? ⟨g, 26, none⟩ = some (.slice xeA xen xec) := (hk6.blk HXF.out (fun x => x)).cell 26
      have HKZ := Lib.hid (HKF.out.then0 hk6)
      have HQ := Lib.hid (show ∀ n : Nat, ((0 : Int) == (n : Int)) = ((0 : Nat) == n) from fun n => by rw [Bool.eq_iff_iff]; simp; omega)
      clear hk6
      cases fb with
      | false =>
        go_wp2_with fail
        go_ret
        exact ⟨ret_bool (by rw [HRR.out]; rfl), HKZ.out⟩
      | true =>
        go_wp2_with fail
        all_goals
          go_ret
          exact ⟨ret_bool (by rw [HRR.out, Bool.eq_iff_iff]; first | (simp; done) | (simp; omega)), HKZ.out⟩
end Go.Proofs.YtfmblalbcodpmaaDoor
