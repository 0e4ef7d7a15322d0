/- What the proofs lean on, part 2 of Fm. No condition. -/
import Derived.Test.YtfmblalbcodpmaaDoorMDoa
import Derived.Test.YtfmblalbcodpmaaDoorMDob
import Derived.Test.YtfmblalbcodpmaaDoorMDoc
import Derived.Test.YtfmblalbcodpmaaDoorMDod
import Derived.Test.YtfmblalbcodpmaaDoorMDoh
import Derived.Test.YtfmblalbcodpmaaDoorMFma
namespace Go.Proofs.YtfmblalbcodpmaaDoor
open Go.RowKit
def isBrP (o : Nat) : Bool := o == 4 || o == 5 || o == 12 || o == 13 || o == 14 || o == 15 || o == 0
def namedP (p : CtxP) (x : FlP) : Bool :=
  if x.op = 14 then decide (0 < x.L.length)
  else if isBrP x.op = true then true
  else if x.op = 2 ∨ x.op = 3 ∨ x.op = 1 then false
  else (EffectP p x.ins .nil .nil).2.2 == 0 && lanesP x
theorem exec_load_row {P : Program} {o : Oper} {a : Act} (ty : TypeId) (x : Operand) (ho : o.op = .load ty x) (w : World) (g : Nat) (hx : a.eval x = .pointer (some ⟨g, 0, none⟩)) (t : TypeId) (cs : Array Value) (fr : Nat × Nat) (d : TypeDesc) (hg : w.heap[g]? = some (.cells cs t fr))
    (hu : P.underlying ty = some d) (hd : (match d with | .struct _ | .array _ _ => true | _ => false) = true) (hi : (P.info? ty).map (·.size) = some cs.size) : (execOp a.eval o).run P w = .ok (.value (.agg cs)) w := by
  unfold execOp
  simp only [ho, hx, Instr.loadAt, Instr.sureAddr, Sem.run_bind, Sem.run_pure, Result.andThen_ok, run_loadVar_row w g t ty cs fr d hg hu hd hi]
set_option maxRecDepth 100000 in
set_option maxHeartbeats 1600000 in
theorem isbr_any (t : Nat) (w : World) : Calls Tryd.prog 44 #[.int .u16 (t : Int)] w fun e w' => e = .returned (.bool (isBrP t)) ∧ w' = w := by
  have HP := Lib.hid (show isBrP t = (t == 4 || t == 5 || t == 12 || t == 13 || t == 14 || t == 15 || t == 0) from rfl)
  by_cases h4 : t = 4
  · subst h4
    go_enter Tryd.func44, Tryd.ntmps44
    go_wp2_with fail
    go_ret
    exact ⟨rfl, rfl⟩
  have i4 : ¬ (t : Int) = 4 := by omega
  by_cases h5 : t = 5
  · subst h5
    go_enter Tryd.func44, Tryd.ntmps44
    go_wp2_with fail
    go_ret
    exact ⟨rfl, rfl⟩
  have i5 : ¬ (t : Int) = 5 := by omega
  by_cases h12 : t = 12
  · subst h12
    go_enter Tryd.func44, Tryd.ntmps44
    go_wp2_with fail
    go_ret
    exact ⟨rfl, rfl⟩
  have i12 : ¬ (t : Int) = 12 := by omega
  by_cases h13 : t = 13
  · subst h13
    go_enter Tryd.func44, Tryd.ntmps44
    go_wp2_with fail
    go_ret
    exact ⟨rfl, rfl⟩
  have i13 : ¬ (t : Int) = 13 := by omega
  by_cases h14 : t = 14
  · subst h14
    go_enter Tryd.func44, Tryd.ntmps44
    go_wp2_with fail
    go_ret
    exact ⟨rfl, rfl⟩
  have i14 : ¬ (t : Int) = 14 := by omega
  by_cases h15 : t = 15
  · subst h15
    go_enter Tryd.func44, Tryd.ntmps44
    go_wp2_with fail
    go_ret
    exact ⟨rfl, rfl⟩
  have i15 : ¬ (t : Int) = 15 := by omega
  by_cases h0 : t = 0
  · subst h0
    go_enter Tryd.func44, Tryd.ntmps44
    go_wp2_with fail
    go_ret
    exact ⟨rfl, rfl⟩
  have i0 : ¬ (t : Int) = 0 := by omega
  go_enter Tryd.func44, Tryd.ntmps44
  go_wp2_with fail
  go_ret
  exact ⟨by rw [HP.out]; simp [h4, h5, h12, h13, h14, h15, h0], rfl⟩
set_option maxRecDepth 100000 in
set_option maxHeartbeats 16000000 in
theorem named_any (c : CC) (p : CtxP) (f : FC) (x : FlP) (w : World) (hc : CtxAt w c p) (h : FlIs w f x) (hsp : SpTab w) : Calls Tryd.prog 27 #[.agg c.arr, .agg f.arr] w fun e w' => e = .returned (.bool (namedP p x)) ∧ Kept S0 w w' := by
  have hka : Kept S0 w ((w.alloc (.cells c.arr 30)).alloc (.cells f.arr 46)) := ((Kept.refl S0 w).alloc _).alloc _
  have hb1 : Blk ((w.alloc (.cells c.arr 30)).alloc (.cells f.arr 46)) w.heap.size 30 c.arr := (Blk.new w _ _).alloc _
  have hb2 : Blk ((w.alloc (.cells c.arr 30)).alloc (.cells f.arr 46)) (w.heap.size + 1) 46 f.arr := Blk.new1 w _ _ _
  have HKA := Lib.hid hka
  have HC := Lib.hid hc
  have HX := Lib.hid h
  have HSP := Lib.hid hsp
  have HOP := Lib.hid h.op
  have hln : x.L.length = f.ln := by have h9 := h.l.len; rw [flat_len goalC 3 (fun _ => rfl)] at h9; omega
  have HLN := Lib.hid hln
  have HIN := Lib.hid (fun w' => instr_any f w')
  have HBR := Lib.hid (fun w' => isbr_any f.op w')
  have HEF := Lib.hid (fun (w' : World) (hk : Kept S0 w w') => eff_any c p f.ic x.ins .nil .nil w' (hc.kept0 hk) (h.ins.kept0 hk) (by decide) (hsp.kept0 hk))
  have HLA := Lib.hid (fun (w' : World) (hk : Kept S0 w w') => lanes_any f x w' (h.kept0 hk) (hsp.kept0 hk))
  clear hka hc h hsp hln
  have hfa : f.arr = #[.int .u16 (f.op : Int), .int .u32 (f.a : Int), .int .u32 (f.b : Int), .int .u64 (f.n : Int), .int .u8 ((f.v 0).toNat : Int), .int .u8 ((f.v 1).toNat : Int), .int .u8 ((f.v 2).toNat : Int), .int .u8 ((f.v 3).toNat : Int), .int .u8 ((f.v 4).toNat : Int), .int .u8 ((f.v 5).toNat : Int), .int .u8 ((f.v 6).toNat : Int), .int .u8 ((f.v 7).toNat : Int), .int .u8 ((f.v 8).toNat : Int), .int .u8 ((f.v 9).toNat : Int), .int .u8 ((f.v 10).toNat : Int), .int .u8 ((f.v 11).toNat : Int), .int .u8 ((f.v 12).toNat : Int), .int .u8 ((f.v 13).toNat : Int), .int .u8 ((f.v 14).toNat : Int), .int .u8 ((f.v 15).toNat : Int), .slice f.tA f.tn f.tc, .int .i64 f.dst, .int .i64 f.keep, .int .i64 f.height, .slice f.lA f.ln f.lc] := rfl
  have hca : c.arr = #[.slice c.tyA c.tyn c.tyc, .slice c.fuA c.fun_ c.fuc, .slice c.taA c.tan c.tac, .slice c.meA c.men c.mec, .slice c.glA c.gln c.glc, .slice c.elA c.eln c.elc, .int .i64 c.datas, .slice c.reA c.ren c.rec_, .slice c.loA c.lon c.loc, .slice c.rsA c.rsn c.rsc, .int .i64 c.fixed] := rfl
  rw [hfa] at hb2 HIN HLA hb1
  rw [hca] at hb1 hb2 HEF
  rw [hfa, hca]
  rw [hfa, hca] at HKA
  clear hfa hca
  obtain ⟨xop, xa, xb, xn, xv, xtA, xtn, xtc, xdst, xkeep, xheight, xlA, xln, xlc⟩ := f
  obtain ⟨ctyA, ctyn, ctyc, cfuA, cfun_, cfuc, ctaA, ctan, ctac, cmeA, cmen, cmec, cglA, cgln, cglc, celA, celn, celc, cdatas, creA, cren, crec_, cloA, clon, cloc, crsA, crsn, crsc, cfixed⟩ := c
  simp only at *
  have HB1 := Lib.hid hb1
  have HB2 := Lib.hid hb2
  clear hb1 hb2
  go_enter Tryd.func27, Tryd.ntmps27
  go_upto_region 1 with fail
  generalize ((w.alloc (.cells #[.slice ctyA ctyn ctyc, .slice cfuA cfun_ cfuc, .slice ctaA ctan ctac, .slice cmeA cmen cmec, .slice cglA cgln cglc, .slice celA celn celc, .int .i64 cdatas, .slice creA cren crec_, .slice cloA clon cloc, .slice crsA crsn crsc, .int .i64 cfixed] 30)).alloc (.cells #[.int .u16 (xop : Int), .int .u32 (xa : Int), .int .u32 (xb : Int), .int .u64 (xn : Int), .int .u8 ((xv 0).toNat : Int), .int .u8 ((xv 1).toNat : Int), .int .u8 ((xv 2).toNat : Int), .int .u8 ((xv 3).toNat : Int), .int .u8 ((xv 4).toNat : Int), .int .u8 ((xv 5).toNat : Int), .int .u8 ((xv 6).toNat : Int), .int .u8 ((xv 7).toNat : Int), .int .u8 ((xv 8).toNat : Int), .int .u8 ((xv 9).toNat : Int), .int .u8 ((xv 10).toNat : Int), .int .u8 ((xv 11).toNat : Int), .int .u8 ((xv 12).toNat : Int), .int .u8 ((xv 13).toNat : Int), .int .u8 ((xv 14).toNat : Int), .int .u8 ((xv 15).toNat : Int), .slice xtA xtn xtc, .int .i64 xdst, .int .i64 xkeep, .int .i64 xheight, .slice xlA xln xlc] 46)) = w2 at *
  generalize hg : w.heap.size = g at *
  have e0 : w2.cell? ⟨g + 1, 0, none⟩ = some (.int .u16 (xop : Int)) := HB2.out.cell 0
  have e24 : w2.cell? ⟨g + 1, 24, none⟩ = some (.slice xlA xln xlc) := HB2.out.cell 24
  by_cases h14 : xop = 14
  · have HE := Lib.hid (show namedP p x = decide (0 < xln) by unfold namedP; rw [if_pos (by rw [← HOP.out]; exact h14), HLN.out])
    clear HIN HBR HEF HLA HOP
    subst h14
    go_wp2_with fail
    all_goals
      go_ret
      exact ⟨ret_bool (by rw [HE.out, Bool.eq_iff_iff]; first | (simp; done) | (simp; omega) | skip), HKA.out⟩
  · have i14 : ¬ (xop : Int) = 14 := by omega
    cases hbr : isBrP xop with
    | true =>
      rw [hbr] at HBR
      have HE := Lib.hid (show namedP p x = true by unfold namedP; rw [← HOP.out, if_neg h14, if_pos hbr])
      clear hbr
      go_wp2_with (go_at_call 44; refine (HBR.out _).mono ?_; rintro e w3 ⟨rfl, rfl⟩)
      go_ret
      exact ⟨ret_bool HE.out.symm, HKA.out⟩
    | false =>
      rw [hbr] at HBR
      by_cases hbl : xop = 2 ∨ xop = 3 ∨ xop = 1
      · have HE := Lib.hid (show namedP p x = false by unfold namedP; rw [← HOP.out, if_neg h14, if_neg (by rw [hbr]; simp), if_pos hbl])
        clear hbr HIN HEF HLA HOP i14 h14
        rcases hbl with rfl | rfl | rfl
        all_goals
          go_wp2_with (go_at_call 44; refine (HBR.out _).mono ?_; rintro e w3 ⟨rfl, rfl⟩)
          go_ret
          exact ⟨ret_bool HE.out.symm, HKA.out⟩
      · have n2 : ¬ xop = 2 := by omega
        have n3 : ¬ xop = 3 := by omega
        have n1 : ¬ xop = 1 := by omega
        have m2 : ¬ (xop : Int) = 2 := by omega
        have m3 : ¬ (xop : Int) = 3 := by omega
        have m1 : ¬ (xop : Int) = 1 := by omega
        have HE := Lib.hid (show namedP p x = ((EffectP p x.ins .nil .nil).2.2 == 0 && lanesP x) by unfold namedP; rw [← HOP.out, if_neg h14, if_neg (by rw [hbr]; simp), if_neg hbl])
        clear hbr hbl
        go_upto_region 7 with (go_at_call 44; refine (HBR.out _).mono ?_; rintro e w3 ⟨rfl, rfl⟩)
        all_goals first | (exfalso; simp_all; done) | skip
        have HD1 := Lib.hid HB1.out.drew
        have HD2 := Lib.hid HB2.out.drew
        have HKD := Lib.hid HKA.out.drew
        refine wp_region_R (fun w' => Blk w' g 30 #[.slice ctyA ctyn ctyc, .slice cfuA cfun_ cfuc, .slice ctaA ctan ctac, .slice cmeA cmen cmec, .slice cglA cgln cglc, .slice celA celn celc, .int .i64 cdatas, .slice creA cren crec_, .slice cloA clon cloc, .slice crsA crsn crsc, .int .i64 cfixed] ∧ Blk w' (g + 1) 46 #[.int .u16 (xop : Int), .int .u32 (xa : Int), .int .u32 (xb : Int), .int .u64 (xn : Int), .int .u8 ((xv 0).toNat : Int), .int .u8 ((xv 1).toNat : Int), .int .u8 ((xv 2).toNat : Int), .int .u8 ((xv 3).toNat : Int), .int .u8 ((xv 4).toNat : Int), .int .u8 ((xv 5).toNat : Int), .int .u8 ((xv 6).toNat : Int), .int .u8 ((xv 7).toNat : Int), .int .u8 ((xv 8).toNat : Int), .int .u8 ((xv 9).toNat : Int), .int .u8 ((xv 10).toNat : Int), .int .u8 ((xv 11).toNat : Int), .int .u8 ((xv 12).toNat : Int), .int .u8 ((xv 13).toNat : Int), .int .u8 ((xv 14).toNat : Int), .int .u8 ((xv 15).toNat : Int), .slice xtA xtn xtc, .int .i64 xdst, .int .i64 xkeep, .int .i64 xheight, .slice xlA xln xlc]) [] (by kernel_rfl) ?_
        have hS : Blk w3.drew g 30 #[.slice ctyA ctyn ctyc, .slice cfuA cfun_ cfuc, .slice ctaA ctan ctac, .slice cmeA cmen cmec, .slice cglA cgln cglc, .slice celA celn celc, .int .i64 cdatas, .slice creA cren crec_, .slice cloA clon cloc, .slice crsA crsn crsc, .int .i64 cfixed] ∧ Blk w3.drew (g + 1) 46 #[.int .u16 (xop : Int), .int .u32 (xa : Int), .int .u32 (xb : Int), .int .u64 (xn : Int), .int .u8 ((xv 0).toNat : Int), .int .u8 ((xv 1).toNat : Int), .int .u8 ((xv 2).toNat : Int), .int .u8 ((xv 3).toNat : Int), .int .u8 ((xv 4).toNat : Int), .int .u8 ((xv 5).toNat : Int), .int .u8 ((xv 6).toNat : Int), .int .u8 ((xv 7).toNat : Int), .int .u8 ((xv 8).toNat : Int), .int .u8 ((xv 9).toNat : Int), .int .u8 ((xv 10).toNat : Int), .int .u8 ((xv 11).toNat : Int), .int .u8 ((xv 12).toNat : Int), .int .u8 ((xv 13).toNat : Int), .int .u8 ((xv 14).toNat : Int), .int .u8 ((xv 15).toNat : Int), .slice xtA xtn xtc, .int .i64 xdst, .int .i64 xkeep, .int .i64 xheight, .slice xlA xln xlc] := ⟨HD1.out, HD2.out⟩
        generalize w3.drew = w4 at *
        refine wpAnyR_take 0 (v := .agg #[.slice ctyA ctyn ctyc, .slice cfuA cfun_ cfuc, .slice ctaA ctan ctac, .slice cmeA cmen cmec, .slice cglA cgln cglc, .slice celA celn celc, .int .i64 cdatas, .slice creA cren crec_, .slice cloA clon cloc, .slice crsA crsn crsc, .int .i64 cfixed]) rfl (by kernel_rfl) (by kernel_rfl) (by kernel_rfl) (by kernel_rfl) (fun _ _ _ h => h) hS ⟨by rfl, fun w hSw => exec_load_row 30 _ rfl w _ rfl 30 #[.slice ctyA ctyn ctyc, .slice cfuA cfun_ cfuc, .slice ctaA ctan ctac, .slice cmeA cmen cmec, .slice cglA cgln cglc, .slice celA celn celc, .int .i64 cdatas, .slice creA cren crec_, .slice cloA clon cloc, .slice crsA crsn crsc, .int .i64 cfixed] (0, 0) _ hSw.1 Tryd.underlying30 rfl (by kernel_rfl)⟩ ?_
        simp only [List.getElem_toArray, List.getElem_cons_zero, Act.put, List.setIfInBounds_toArray, List.set_cons_zero, List.set_cons_succ]
        refine wpAnyR_take 1 (v := .agg #[.int .u16 (xop : Int), .int .u32 (xa : Int), .int .u32 (xb : Int), .int .u64 (xn : Int), .int .u8 ((xv 0).toNat : Int), .int .u8 ((xv 1).toNat : Int), .int .u8 ((xv 2).toNat : Int), .int .u8 ((xv 3).toNat : Int), .int .u8 ((xv 4).toNat : Int), .int .u8 ((xv 5).toNat : Int), .int .u8 ((xv 6).toNat : Int), .int .u8 ((xv 7).toNat : Int), .int .u8 ((xv 8).toNat : Int), .int .u8 ((xv 9).toNat : Int), .int .u8 ((xv 10).toNat : Int), .int .u8 ((xv 11).toNat : Int), .int .u8 ((xv 12).toNat : Int), .int .u8 ((xv 13).toNat : Int), .int .u8 ((xv 14).toNat : Int), .int .u8 ((xv 15).toNat : Int), .slice xtA xtn xtc, .int .i64 xdst, .int .i64 xkeep, .int .i64 xheight, .slice xlA xln xlc]) rfl (by kernel_rfl) (by kernel_rfl) (by kernel_rfl) (by kernel_rfl) (fun _ _ _ h => h) hS ⟨by rfl, fun w hSw => exec_load_row 46 _ rfl w _ rfl 46 #[.int .u16 (xop : Int), .int .u32 (xa : Int), .int .u32 (xb : Int), .int .u64 (xn : Int), .int .u8 ((xv 0).toNat : Int), .int .u8 ((xv 1).toNat : Int), .int .u8 ((xv 2).toNat : Int), .int .u8 ((xv 3).toNat : Int), .int .u8 ((xv 4).toNat : Int), .int .u8 ((xv 5).toNat : Int), .int .u8 ((xv 6).toNat : Int), .int .u8 ((xv 7).toNat : Int), .int .u8 ((xv 8).toNat : Int), .int .u8 ((xv 9).toNat : Int), .int .u8 ((xv 10).toNat : Int), .int .u8 ((xv 11).toNat : Int), .int .u8 ((xv 12).toNat : Int), .int .u8 ((xv 13).toNat : Int), .int .u8 ((xv 14).toNat : Int), .int .u8 ((xv 15).toNat : Int), .slice xtA xtn xtc, .int .i64 xdst, .int .i64 xkeep, .int .i64 xheight, .slice xlA xln xlc] (0, 0) _ hSw.2 Tryd.underlying46 rfl (by kernel_rfl)⟩ ?_
        simp only [List.getElem_toArray, List.getElem_cons_zero, List.getElem_cons_succ, Act.put, List.setIfInBounds_toArray, List.set_cons_zero, List.set_cons_succ]
        refine wpAnyR_one 2 rfl (by kernel_rfl) (fun K hK => ?_)
        go_simp
        go_at_call 46
        refine (HIN.out w4).mono ?_
        rintro e w5 ⟨rfl, hk5⟩
        have hS5 : Blk w5 g 30 #[.slice ctyA ctyn ctyc, .slice cfuA cfun_ cfuc, .slice ctaA ctan ctac, .slice cmeA cmen cmec, .slice cglA cgln cglc, .slice celA celn celc, .int .i64 cdatas, .slice creA cren crec_, .slice cloA clon cloc, .slice crsA crsn crsc, .int .i64 cfixed] ∧ Blk w5 (g + 1) 46 #[.int .u16 (xop : Int), .int .u32 (xa : Int), .int .u32 (xb : Int), .int .u64 (xn : Int), .int .u8 ((xv 0).toNat : Int), .int .u8 ((xv 1).toNat : Int), .int .u8 ((xv 2).toNat : Int), .int .u8 ((xv 3).toNat : Int), .int .u8 ((xv 4).toNat : Int), .int .u8 ((xv 5).toNat : Int), .int .u8 ((xv 6).toNat : Int), .int .u8 ((xv 7).toNat : Int), .int .u8 ((xv 8).toNat : Int), .int .u8 ((xv 9).toNat : Int), .int .u8 ((xv 10).toNat : Int), .int .u8 ((xv 11).toNat : Int), .int .u8 ((xv 12).toNat : Int), .int .u8 ((xv 13).toNat : Int), .int .u8 ((xv 14).toNat : Int), .int .u8 ((xv 15).toNat : Int), .slice xtA xtn xtc, .int .i64 xdst, .int .i64 xkeep, .int .i64 xheight, .slice xlA xln xlc] := ⟨hk5.blk hS.1 (fun x => x), hk5.blk hS.2 (fun x => x)⟩
        refine hK.out _ _ (fun _ => hS5) ?_
        have HK5 := Lib.hid (HKD.out.then0 hk5)
        clear hK K hS hk5
        refine wpAnyR_one 3 rfl (by kernel_rfl) (fun K hK => ?_)
        go_simp
        go_at_call 45
        refine (HEF.out w5 HK5.out).mono ?_
        unfold tri
        rintro e w6 ⟨rfl, hk6⟩
        have hS6 : Blk w6 g 30 #[.slice ctyA ctyn ctyc, .slice cfuA cfun_ cfuc, .slice ctaA ctan ctac, .slice cmeA cmen cmec, .slice cglA cgln cglc, .slice celA celn celc, .int .i64 cdatas, .slice creA cren crec_, .slice cloA clon cloc, .slice crsA crsn crsc, .int .i64 cfixed] ∧ Blk w6 (g + 1) 46 #[.int .u16 (xop : Int), .int .u32 (xa : Int), .int .u32 (xb : Int), .int .u64 (xn : Int), .int .u8 ((xv 0).toNat : Int), .int .u8 ((xv 1).toNat : Int), .int .u8 ((xv 2).toNat : Int), .int .u8 ((xv 3).toNat : Int), .int .u8 ((xv 4).toNat : Int), .int .u8 ((xv 5).toNat : Int), .int .u8 ((xv 6).toNat : Int), .int .u8 ((xv 7).toNat : Int), .int .u8 ((xv 8).toNat : Int), .int .u8 ((xv 9).toNat : Int), .int .u8 ((xv 10).toNat : Int), .int .u8 ((xv 11).toNat : Int), .int .u8 ((xv 12).toNat : Int), .int .u8 ((xv 13).toNat : Int), .int .u8 ((xv 14).toNat : Int), .int .u8 ((xv 15).toNat : Int), .slice xtA xtn xtc, .int .i64 xdst, .int .i64 xkeep, .int .i64 xheight, .slice xlA xln xlc] := ⟨hk6.blk hS5.1 (fun x => x), hk6.blk hS5.2 (fun x => x)⟩
        refine hK.out _ _ (fun _ => hS6) ?_
        have HK6 := Lib.hid (HK5.out.then0 hk6)
        have HF6 := Lib.hid hS6.2
        clear hK K hS5 hk6
        generalize EffectP p x.ins .nil .nil = ep at *
        refine wpAnyR_take 4 (v := ?_) rfl (by kernel_rfl) (by kernel_rfl) (by kernel_rfl) (by kernel_rfl) (fun _ _ _ h => h) hS6 ⟨by rfl, ?_⟩ ?_
        rotate_left; (intro w hSw; (try dsimp only at hSw); first | (go_simp; done) | (go_simp; with_reducible rfl))
        simp only [List.getElem_toArray, List.getElem_cons_zero, List.getElem_cons_succ, Act.put, List.setIfInBounds_toArray, List.set_cons_zero, List.set_cons_succ]
        refine wpAnyR_take 5 (v := ?_) rfl (by kernel_rfl) (by kernel_rfl) (by kernel_rfl) (by kernel_rfl) (fun _ _ _ h => h) hS6 ⟨by rfl, ?_⟩ ?_
        rotate_left; (intro w hSw; (try dsimp only at hSw); first | (go_simp; done) | (go_simp; with_reducible rfl))
        simp only [List.getElem_toArray, List.getElem_cons_zero, List.getElem_cons_succ, Act.put, List.setIfInBounds_toArray, List.set_cons_zero, List.set_cons_succ]
        refine wpAnyR_take 6 (v := ?_) rfl (by kernel_rfl) (by kernel_rfl) (by kernel_rfl) (by kernel_rfl) (fun _ _ _ h => h) hS6 ⟨by rfl, ?_⟩ ?_
        rotate_left; (intro w hSw; (try dsimp only at hSw); first | (go_simp; done) | (go_simp; with_reducible rfl))
        simp only [List.getElem_toArray, List.getElem_cons_zero, List.getElem_cons_succ, Act.put, List.setIfInBounds_toArray, List.set_cons_zero, List.set_cons_succ]
        refine wpAnyR_take 7 (v := ?_) rfl (by kernel_rfl) (by kernel_rfl) (by kernel_rfl) (by kernel_rfl) (fun _ _ _ h => h) hS6 ⟨by rfl, ?_⟩ ?_
        rotate_left; (intro w hSw; (try dsimp only at hSw); first | (go_simp; done) | (go_simp; with_reducible rfl))
        simp only [List.getElem_toArray, List.getElem_cons_zero, List.getElem_cons_succ, Act.put, List.setIfInBounds_toArray, List.set_cons_zero, List.set_cons_succ]
        refine wpAnyR_take 8 (v := ?_) rfl (by kernel_rfl) (by kernel_rfl) (by kernel_rfl) (by kernel_rfl) (fun _ _ _ h => h) hS6 ⟨by rfl, ?_⟩ ?_
        rotate_left; (intro w hSw; (try dsimp only at hSw); first | (go_simp; done) | (go_simp; with_reducible rfl))
        simp only [List.getElem_toArray, List.getElem_cons_zero, List.getElem_cons_succ, Act.put, List.setIfInBounds_toArray, List.set_cons_zero, List.set_cons_succ]
        refine wpAnyR_take 9 (v := ?_) rfl (by kernel_rfl) (by kernel_rfl) (by kernel_rfl) (by kernel_rfl) (fun _ _ _ h => h) hS6 ⟨by rfl, ?_⟩ ?_
        rotate_left; (intro w hSw; (try dsimp only at hSw); first | (go_simp; done) | (go_simp; with_reducible rfl))
        simp only [List.getElem_toArray, List.getElem_cons_zero, List.getElem_cons_succ, Act.put, List.setIfInBounds_toArray, List.set_cons_zero, List.set_cons_succ]
        refine wpAnyR_take 10 (v := ?_) rfl (by kernel_rfl) (by kernel_rfl) (by kernel_rfl) (by kernel_rfl) (fun _ _ _ h => h) hS6 ⟨by rfl, ?_⟩ ?_
        rotate_left; (intro w hSw; (try dsimp only at hSw); first | (go_simp; done) | (go_simp; with_reducible rfl))
        simp only [List.getElem_toArray, List.getElem_cons_zero, List.getElem_cons_succ, Act.put, List.setIfInBounds_toArray, List.set_cons_zero, List.set_cons_succ]
        refine wpAnyR_done (by kernel_rfl) ?_ _
        clear hS6
        cases hz : (ep.2.2 == 0) with
        | false =>
          have i1 : ¬ (ep.2.2 : Int) = 0 := by have : ¬ ep.2.2 = 0 := by simpa using hz
                                               omega
          have HZ := Lib.hid hz
          clear hz
          go_wp2_with fail
          go_ret
          exact ⟨ret_bool (by rw [HE.out, HZ.out]; rfl), HK6.out⟩
        | true =>
          have i1 : (ep.2.2 : Int) = 0 := by have : ep.2.2 = 0 := by simpa using hz
                                             omega
          have HZ := Lib.hid hz
          clear hz
          go_wp2_with (first | (refine wpList_load_cells_g (by rfl) 46 _ rfl ⟨g + 1, 0, none⟩ rfl #[.int .u16 (xop : Int), .int .u32 (xa : Int), .int .u32 (xb : Int), .int .u64 (xn : Int), .int .u8 ((xv 0).toNat : Int), .int .u8 ((xv 1).toNat : Int), .int .u8 ((xv 2).toNat : Int), .int .u8 ((xv 3).toNat : Int), .int .u8 ((xv 4).toNat : Int), .int .u8 ((xv 5).toNat : Int), .int .u8 ((xv 6).toNat : Int), .int .u8 ((xv 7).toNat : Int), .int .u8 ((xv 8).toNat : Int), .int .u8 ((xv 9).toNat : Int), .int .u8 ((xv 10).toNat : Int), .int .u8 ((xv 11).toNat : Int), .int .u8 ((xv 12).toNat : Int), .int .u8 ((xv 13).toNat : Int), .int .u8 ((xv 14).toNat : Int), .int .u8 ((xv 15).toNat : Int), .slice xtA xtn xtc, .int .i64 xdst, .int .i64 xkeep, .int .i64 xheight, .slice xlA xln xlc] _ (fun j _ => by rw [addr_add, Nat.zero_add]; exact HF6.out.cell j) Tryd.underlying46 rfl (by kernel_rfl) ?_) | (go_at_call 47; refine (HLA.out w6 HK6.out).mono ?_; rintro e w7 ⟨rfl, hk7⟩))
          go_ret
          exact ⟨ret_bool (by rw [HE.out, HZ.out]; rfl), HK6.out.then0 hk7⟩
end Go.Proofs.YtfmblalbcodpmaaDoor
namespace Go.Proofs.YtfmblalbcodpmaaDoor
open Go.RowKit
/-- Flat instructions in a row. -/
structure SlFl (w : World) (A : Option Addr) (n c : Nat) (l : List FlP) : Prop where
  len : n = l.length
  le : n ≤ c
  cm : c ≤ maxLen
  at_ : 0 < n → ∃ b o, A = some ⟨b, o, none⟩ ∧ ∀ k x, l[k]? = some x → ∃ f : FC, CellsAt w b (o + k * 25) f.arr ∧ FlIs w f x
theorem SlFl.kept0 {w w' : World} {A : Option Addr} {n c : Nat} {l : List FlP} (h : SlFl w A n c l) (hk : Kept S0 w w') : SlFl w' A n c l :=
  ⟨h.len, h.le, h.cm, fun hn => by
    obtain ⟨b, o, e, hc⟩ := h.at_ hn
    refine ⟨b, o, e, fun k x hx => ?_⟩
    obtain ⟨f, h1, h2⟩ := hc k x hx
    exact ⟨f, h1.kept0 hk, h2.kept0 hk⟩⟩
def firstG {α : Type} (p : α → Bool) : List α → Nat → Int
  | [], _ => -1
  | x :: r, k => if p x then (k : Int) else firstG p r (k + 1)
theorem firstG_any {α : Type} (p : α → Bool) : ∀ (l : List α) (k : Nat), (0 ≤ firstG p l k) = (l.any p = true)
  | [], k => by simp [firstG]
  | x :: r, k => by
    unfold firstG
    cases h : p x with
    | true =>
      simp only [if_true, List.any_cons, h, Bool.true_or]
      simp
    | false =>
      simp only [Bool.false_eq_true, if_false, List.any_cons, h, Bool.false_or]
      exact firstG_any p r (k + 1)
theorem firstG_drop {α : Type} (p : α → Bool) {l : List α} {k : Nat} {x : α} (h : l[k]? = some x) : firstG p (l.drop k) k = if p x then (k : Int) else firstG p (l.drop (k + 1)) (k + 1) := by
  have hk := (List.getElem?_eq_some_iff.1 h).1
  have he := (List.getElem?_eq_some_iff.1 h).2
  rw [List.drop_eq_getElem_cons hk, he, firstG]
set_option maxRecDepth 100000 in
set_option maxHeartbeats 6400000 in
theorem h1_any (gc : Nat) (c : CC) (p : CtxP) (f : FC) (x : FlP) (w : World) (hb : Blk w gc 30 c.arr) (hc : CtxAt w c p) (h : FlIs w f x) (hsp : SpTab w) :
    Calls Tryd.prog 26 #[.agg f.arr, .pointer (some ⟨gc, 0, none⟩)] w fun e w' => e = .returned (.bool (!namedP p x)) ∧ Kept S0 w w' := by
  have hka : Kept S0 w (w.alloc (.cells f.arr 46)) := (Kept.refl S0 w).alloc _
  have HB1 := Lib.hid (hka.blk hb (fun x => x))
  have HB2 := Lib.hid (Blk.new w 46 f.arr)
  have HN := Lib.hid (named_any c p f x (w.alloc (.cells f.arr 46)) (hc.kept0 hka) (h.kept0 hka) (hsp.kept0 hka))
  have HKA := Lib.hid hka
  clear hka hb hc h hsp
  generalize namedP p x = nb at *
  go_enter Tryd.func26, Tryd.ntmps26
  go_upto_region 1 with fail
  generalize (w.alloc (.cells f.arr 46)) = w2 at *
  generalize w.heap.size = g at *
  go_wp2_with (first | (refine wpList_load_row rfl 30 _ rfl gc rfl 30 c.arr (0, 0) _ HB1.out Tryd.underlying30 rfl (by kernel_rfl) ?_) | (refine wpList_load_row rfl 46 _ rfl g rfl 46 f.arr (0, 0) _ HB2.out Tryd.underlying46 rfl (by kernel_rfl) ?_) | (go_at_call 27; refine HN.out.mono ?_; rintro e w3 ⟨rfl, hk3⟩))
  go_ret
  exact ⟨rfl, HKA.out.then0 hk3⟩
set_option maxRecDepth 100000 in
set_option maxHeartbeats 6400000 in
theorem iff_any (gc : Nat) (cc : CC) (p : CtxP) (A : Option Addr) (n c : Nat) (l : List FlP) (w : World) (hb : Blk w gc 30 cc.arr) (hc : CtxAt w cc p) (hl : SlFl w A n c l) (hsp : SpTab w) (hn : n ≤ 9223372036854775806) :
    Calls Tryd.prog 43 #[.slice A n c, .func (.func 26) #[] #[.pointer (some ⟨gc, 0, none⟩)]] w fun e w' => e = .returned (.int .i64 (firstG (fun x => !namedP p x) l 0)) ∧ Kept S0 w w' := by
  have HL := Lib.hid hl
  have HN := Lib.hid hl.len
  have HH := Lib.hid (fun (w' : World) (hk : Kept S0 w w') (f : FC) (x : FlP) (h : FlIs w' f x) => h1_any gc cc p f x w' (hk.blk hb (fun x => x)) (hc.kept0 hk) h (hsp.kept0 hk))
  clear hb hc hl hsp
  go_enter Tryd.func43, Tryd.ntmps43
  go_wp2_with fail
  go_loopw [8] (fun i wr => ∃ k : Nat, k ≤ n ∧ i = .int .i64 (k : Int) ∧ Kept S0 w wr ∧ firstG (fun x => !namedP p x) (l.drop k) k = firstG (fun x => !namedP p x) l 0) (fun i _ => n + 1 - (intOf i).toNat)
  case atStart => exact ⟨0, Nat.zero_le _, rfl, Kept.refl _ _, rfl⟩
  case round =>
    obtain ⟨k, hk, rfl, hkr, hlm⟩ := hrel
    have HLM := Lib.hid hlm
    have HK := Lib.hid hkr
    clear hlm hkr
    by_cases hlt : k < n
    · obtain ⟨x, hx⟩ : ∃ x, l[k]? = some x := ⟨_, List.getElem?_eq_getElem (by have := HN.out; omega)⟩
      obtain ⟨b, o, rfl, hcs⟩ := (HL.out.kept0 HK.out).at_ (by omega)
      obtain ⟨f, hcf, hff⟩ := hcs k x hx
      have HF := Lib.hid (firstG_drop (fun x => !namedP p x) hx)
      have hld : ∀ j, j < f.arr.size → wr.cell? ((⟨b, o + k * 25, none⟩ : Addr).add j) = f.arr[j]? := fun j hj => by rw [addr_add]; exact hcf j hj
      have HLD := Lib.hid hld
      have HC := Lib.hid (HH.out wr HK.out f x hff)
      have hlti : (k : Int) < (n : Int) := by omega
      clear hcs hcf hff hld hx
      cases hp : namedP p x with
      | false =>
        rw [hp] at HC
        have HF2 := Lib.hid (HLM.out.symm.trans (HF.out.trans (if_pos (by simp [hp]))))
        clear hp HF
        go_wp2_with (first | (refine wpList_load_cells rfl 46 _ rfl ⟨b, o + k * 25, none⟩ rfl f.arr _ HLD.out Tryd.underlying46 rfl (by kernel_rfl) ?_) | (go_at_call 26; refine HC.out.mono ?_; rintro e w' ⟨rfl, hk'⟩))
        go_ret
        exact ⟨ret_int (by rw [HF2.out]), HK.out.then0 hk'⟩
      | true =>
        rw [hp] at HC
        have HF2 := Lib.hid ((HF.out.trans (if_neg (by simp [hp]))).symm.trans HLM.out)
        clear hp HF
        go_wp2_with (first | (refine wpList_load_cells rfl 46 _ rfl ⟨b, o + k * 25, none⟩ rfl f.arr _ HLD.out Tryd.underlying46 rfl (by kernel_rfl) ?_) | (go_at_call 26; refine HC.out.mono ?_; rintro e w' ⟨rfl, hk'⟩))
        go_roundw
        case rel => exact ⟨k + 1, by omega, by go_num, HK.out.then0 hk', HF2.out⟩
        case measure => simp [intOf]; omega
    · have hall : firstG (fun x => !namedP p x) l 0 = -1 := by
        have h := HLM.out
        rw [List.drop_eq_nil_of_le (by have := HN.out; omega)] at h
        exact h.symm
      have HAL := Lib.hid hall
      clear hall
      go_wp2_with fail
      go_ret
      exact ⟨ret_int HAL.out.symm, HK.out⟩
set_option maxRecDepth 100000 in
set_option maxHeartbeats 1600000 in
theorem cff_any (gc : Nat) (cc : CC) (p : CtxP) (A : Option Addr) (n c : Nat) (l : List FlP) (w : World) (hb : Blk w gc 30 cc.arr) (hc : CtxAt w cc p) (hl : SlFl w A n c l) (hsp : SpTab w) (hn : n ≤ 9223372036854775806) :
    Calls Tryd.prog 25 #[.slice A n c, .func (.func 26) #[] #[.pointer (some ⟨gc, 0, none⟩)]] w fun e w' => e = .returned (.bool (l.any fun x => !namedP p x)) ∧ Kept S0 w w' := by
  have H := Lib.hid (iff_any gc cc p A n c l w hb hc hl hsp hn)
  have HP := Lib.hid (firstG_any (fun x => !namedP p x) l 0)
  clear hb hc hl hsp
  generalize firstG (fun x => !namedP p x) l 0 = z at *
  go_enter Tryd.func25, Tryd.ntmps25
  go_wp2_with fail
  refine H.out.mono ?_
  rintro e w' ⟨rfl, hk⟩
  have HK := Lib.hid hk
  clear hk
  go_wp2_with fail
  all_goals
    go_ret
    exact ⟨ret_bool (by have h := HP.out; rw [Bool.eq_iff_iff, ← h]; simp), HK.out⟩
end Go.Proofs.YtfmblalbcodpmaaDoor
namespace Go.Proofs.YtfmblalbcodpmaaDoor
open Go.RowKit
/-- The walk's state. -/
structure WP where
  high : List Int
  wait : List Int
  no : Bool
def i64V (x : Int) : Value := .int .i64 x
/-- The walk's cells. -/
def wArr (c : CC) (xA : Option Addr) (xn xc : Nat) (H : Int) (hv wv : Value) (no : Bool) : Array Value := #[.slice c.tyA c.tyn c.tyc, .slice c.fuA c.fun_ c.fuc, .slice c.taA c.tan c.tac, .slice c.meA c.men c.mec, .slice c.glA c.gln c.glc, .slice c.elA c.eln c.elc, .int .i64 c.datas, .slice c.reA c.ren c.rec_, .slice c.loA c.lon c.loc, .slice c.rsA c.rsn c.rsc, .int .i64 c.fixed, .slice xA xn xc, .int .i64 H, hv, wv, .bool no]
/-- The state lies in memory: w0 is the world in which the walk began. -/
structure WAt (w0 w : World) (W hb : Nat) (c : CC) (xA : Option Addr) (xn xc : Nat) (H : Int) (wv : Value) (s : WP) : Prop where
  blk : Blk w W 80 (wArr c xA xn xc H (.slice (some ⟨hb, 0, none⟩) xn xn) wv s.no)
  low : w0.heap.size ≤ W
  hi : OwnL w w0.heap.size 3 1 (.slice (some ⟨hb, 0, none⟩) xn xn) xn (s.high.map i64V)
  wt : OwnL w w0.heap.size 3 1 wv s.wait.length (s.wait.map i64V)
  ne : wv.ownBlock ≠ some hb
  kept : Kept S0 w0 w
theorem Tryj.infoI : (Tryd.prog.info? 3).map (fun i => (i.zero, i.size, i.bytes)) = some (some (.int .i64 0), 1, 8) := by kernel_rfl
/-- What to does. -/
def walkTo (xn : Nat) (H : Int) (s : WP) (at_ high : Int) : WP :=
  if at_ < 0 ∨ (xn : Int) ≤ at_ ∨ H < high then { s with no := true }
  else if s.high.getD at_.toNat 0 < 0 then { s with high := s.high.set at_.toNat high, wait := s.wait ++ [at_] }
  else if s.high.getD at_.toNat 0 = high then s else { s with no := true }
section
variable {w0 w : World} {W hb : Nat} {c : CC} {xA : Option Addr} {xn xc : Nat} {H : Int} {wv : Value} {s : WP}
theorem WAt.len (h : WAt w0 w W hb c xA xn xc H wv s) : s.high.length = xn := by
  have := h.hi.len
  rw [List.length_map] at this
  omega
theorem WAt.neW (h : WAt w0 w W hb c xA xn xc H wv s) : W ≠ hb := fun e => by
  have := h.hi.ne_blk h.blk (by decide)
  exact this (by rw [e]; rfl)
theorem WAt.neV (h : WAt w0 w W hb c xA xn xc H wv s) : wv.ownBlock ≠ some W := h.wt.ne_blk h.blk (by decide)
theorem WAt.kept0 {w' : World} (h : WAt w0 w W hb c xA xn xc H wv s) (hk : Kept S0 w w') : WAt w0 w' W hb c xA xn xc H wv s :=
  ⟨hk.blk h.blk (fun x => x), h.low, h.hi.kept0 hk, h.wt.kept0 hk, h.ne, h.kept.trans hk⟩
/-- No. -/
theorem WAt.setNo (h : WAt w0 w W hb c xA xn xc H wv s) (b : Bool) : WAt w0 (w.setCell ⟨W, 15, none⟩ (.bool b)) W hb c xA xn xc H wv { s with no := b } := by
  have hk : Kept (S1 W) w (w.setCell ⟨W, 15, none⟩ (.bool b)) := (Kept.refl (S1 _) w).setCell (p := ⟨_, _, none⟩) (.inl rfl) _
  exact ⟨h.blk.set_ 15 _, h.low, h.hi.kept hk (fun g e x => h.neW (by cases e; exact x.symm)), h.wt.kept hk (fun g e x => h.neV (by rw [e, x])), h.ne, h.kept.setCell (.inr h.low) _⟩
/-- A height. -/
theorem WAt.setHigh (h : WAt w0 w W hb c xA xn xc H wv s) (k : Nat) (hk : k < xn) (v : Int) : WAt w0 (w.setCell ⟨hb, k, none⟩ (.int .i64 v)) W hb c xA xn xc H wv { s with high := s.high.set k v } := by
  have hs : Kept (S1 hb) w (w.setCell ⟨hb, k, none⟩ (.int .i64 v)) := (Kept.refl (S1 _) w).setCell (p := ⟨_, _, none⟩) (.inl rfl) _
  refine ⟨h.blk.far h.neW _, h.low, (h.hi.set k (by omega) _).congr (by rw [List.map_set]; rfl), h.wt.kept hs (fun g e x => h.ne (by rw [e, x])), h.ne, h.kept.setCell (.inr h.hi.ge) _⟩
/-- One more to visit. -/
theorem WAt.push {w' : World} {v' : Value} {x : Int} (h : WAt w0 w W hb c xA xn xc H wv s) (hp : Pushed w w' w0.heap.size 3 1 wv v' (s.wait.length + 1) (s.wait.map i64V ++ [.int .i64 x])) : WAt w0 (w'.setCell ⟨W, 14, none⟩ v') W hb c xA xn xc H v' { s with wait := s.wait ++ [x] } := by
  have hs : Kept (S1 W) w' (w'.setCell ⟨W, 14, none⟩ v') := (Kept.refl (S1 _) w').setCell (p := ⟨_, _, none⟩) (.inl rfl) _
  have hb' : Blk w' W 80 _ := hp.blk h.blk h.neV
  have hlt : ∀ g, (Value.slice (some ⟨hb, 0, none⟩) xn xn).ownBlock = some g → ¬ wv.ownBlock = some g := fun g e x => h.ne (by cases e; exact x)
  refine ⟨hb'.set_ 14 _, h.low, (h.hi.kept hp.kept hlt).kept hs (fun g e x => h.neW (by cases e; exact x.symm)), ?_, ?_, (hp.keep h.kept (Nat.le_refl _)).setCell (.inr h.low) _⟩
  · have := hp.own.kept hs (fun g e x => hp.own.ne_blk hb' (by decide) (by rw [e, x]))
    rw [List.length_append, List.map_append]
    exact this
  · rcases hp.block with e | e
    · rw [e]; exact h.ne
    · rw [e]
      intro e2
      cases e2
      exact absurd (h.hi.lt _ rfl).2 (Nat.lt_irrefl _)
end
set_option maxRecDepth 100000 in
set_option maxHeartbeats 6400000 in
theorem to_any (w0 : World) (W hb : Nat) (c : CC) (xA : Option Addr) (xn xc : Nat) (H : Int) (wv : Value) (s : WP) (at_ high : Int) (w : World) (h : WAt w0 w W hb c xA xn xc H wv s) (hm : s.wait.length ≤ 1099511627776) :
    Calls Tryd.prog 28 #[.pointer (some ⟨W, 0, none⟩), .int .i64 at_, .int .i64 high] w fun e w' => e = .returned (.tuple #[]) ∧ ∃ wv', WAt w0 w' W hb c xA xn xc H wv' (walkTo xn H s at_ high) := by
  have HW := Lib.hid h
  have hlen := h.len
  have hbase := Nat.le_trans h.low (Nat.le_of_lt h.blk.lt)
  have c11 : w.cell? ⟨W, 11, none⟩ = some (.slice xA xn xc) := h.blk.cell 11
  have c12 : w.cell? ⟨W, 12, none⟩ = some (.int .i64 H) := h.blk.cell 12
  have c13 : w.cell? ⟨W, 13, none⟩ = some (.slice (some ⟨hb, 0, none⟩) xn xn) := h.blk.cell 13
  have c15 : w.cell? ⟨W, 15, none⟩ = some (.bool s.no) := h.blk.cell 15
  have f15 := h.blk.frozen 15
  have f14 := h.blk.frozen 14
  clear h
  by_cases h1 : at_ < 0
  · have HT := Lib.hid (show walkTo xn H s at_ high = { s with no := true } from if_pos (.inl h1))
    go_enter Tryd.func28, Tryd.ntmps28
    go_wp2_with fail
    go_end0
    exact ⟨rfl, wv, by rw [HT.out]; exact HW.out.setNo true⟩
  obtain ⟨k, rfl⟩ : ∃ k : Nat, at_ = (k : Int) := ⟨at_.toNat, by omega⟩
  by_cases h2 : (xn : Int) ≤ (k : Int)
  · have HT := Lib.hid (show walkTo xn H s (k : Int) high = { s with no := true } from if_pos (.inr (.inl h2)))
    go_enter Tryd.func28, Tryd.ntmps28
    go_wp2_with fail
    go_end0
    exact ⟨rfl, wv, by rw [HT.out]; exact HW.out.setNo true⟩
  by_cases h3 : H < high
  · have HT := Lib.hid (show walkTo xn H s (k : Int) high = { s with no := true } from if_pos (.inr (.inr h3)))
    go_enter Tryd.func28, Tryd.ntmps28
    go_wp2_with fail
    go_end0
    exact ⟨rfl, wv, by rw [HT.out]; exact HW.out.setNo true⟩
  have hkn : k < xn := by omega
  have h0 : walkTo xn H s (k : Int) high = (if s.high.getD k 0 < 0 then { s with high := s.high.set k high, wait := s.wait ++ [(k : Int)] } else if s.high.getD k 0 = high then s else { s with no := true }) := if_neg (by omega)
  obtain ⟨z, hz⟩ : ∃ z, s.high[k]? = some z := ⟨_, List.getElem?_eq_getElem (by omega)⟩
  have hzd : s.high.getD k 0 = z := by simp [List.getD_eq_getElem?_getD, hz]
  rw [hzd] at h0
  have ch : w.cell? ⟨hb, k, none⟩ = some (.int .i64 z) := HW.out.hi.cell (by rw [List.getElem?_map, hz]; rfl)
  have fh := HW.out.hi.frozen k
  clear hz hzd hlen
  by_cases h4 : z < 0
  · have HT := Lib.hid (h0.trans (if_pos h4))
    clear h0
    have HW2 := Lib.hid (HW.out.setHigh k hkn high)
    have d14 : (w.setCell ⟨hb, k, none⟩ (.int .i64 high)).cell? ⟨W, 14, none⟩ = some wv := HW2.out.blk.cell 14
    have g14 := HW2.out.blk.frozen 14
    have hnil : Sl w none 0 (ofL []) := fun h => absurd h (by omega)
    clear hnil
    go_enter Tryd.func28, Tryd.ntmps28
    go_upto_region 4 with fail
    generalize (w.setCell ⟨hb, k, none⟩ (.int .i64 high)) = w2 at *
    have HKA := Lib.hid ((Kept.refl S0 w2).alloc (.cells #[.int .i64 (k : Int)] 3))
    have HW3 := Lib.hid (HW2.out.kept0 HKA.out)
    have hown3 := HW3.out.wt
    have hsrc : SlL (w2.alloc (.cells #[.int .i64 (k : Int)] 3)) 1 (some ⟨w2.heap.size, 0, none⟩) 1 1 #[.int .i64 (k : Int)].toList := SlL.of_blk (Blk.new w2 _ _) rfl (by decide)
    have hb3 : w0.heap.size ≤ (w2.alloc (.cells #[.int .i64 (k : Int)] 3)).heap.size := Nat.le_trans HW3.out.low (Nat.le_of_lt HW3.out.blk.lt)
    go_wp2_with (at_builtin; refine wpList_push rfl _ _ 47 rfl w0.heap.size 3 (.int .i64 0) 1 8 Tryd.underlying47 Tryj.infoI rfl (by decide) wv s.wait.length _ rfl hown3 (some ⟨w2.heap.size, 0, none⟩) 1 1 #[.int .i64 (k : Int)].toList rfl hsrc (by simp [Value.oneCell']) (by unfold maxLen; omega) (by omega) hb3 ?_; intro v' w' hp; obtain ⟨A', c', rfl, -⟩ := hp.own.out; have i14 := (hp.blk HW3.out.blk HW3.out.neV).frozen 14; have j14 : w'.cell? ⟨W, 14, none⟩ = some wv := (hp.blk HW3.out.blk HW3.out.neV).cell 14)
    go_end0
    exact ⟨rfl, _, by rw [HT.out]; exact HW3.out.push hp⟩
  · have h5 := h0.trans (if_neg h4)
    by_cases h6 : z = high
    · have HT := Lib.hid (h5.trans (if_pos h6))
      clear h0 h5
      have hd : decide (z = high) = true := decide_eq_true h6
      subst h6
      go_enter Tryd.func28, Tryd.ntmps28
      go_wp2_with fail
      go_end0
      exact ⟨rfl, wv, by rw [HT.out]; exact HW.out⟩
    · have HT := Lib.hid (h5.trans (if_neg h6))
      clear h0 h5
      go_enter Tryd.func28, Tryd.ntmps28
      go_wp2_with fail
      go_end0
      exact ⟨rfl, wv, by rw [HT.out]; exact HW.out.setNo true⟩
end Go.Proofs.YtfmblalbcodpmaaDoor
namespace Go.Proofs.YtfmblalbcodpmaaDoor
open Go.RowKit
/-- What goal does. -/
def goalP (xn : Nat) (H : Int) (s : WP) (g : Int × Int × Int) (have_ : Int) : WP :=
  if g.2.1 < 0 ∨ g.2.2 < 0 ∨ have_ < g.2.1 ∨ have_ - g.2.1 < g.2.2 then { s with no := true } else walkTo xn H s g.1 (g.2.2 + g.2.1)
set_option maxRecDepth 100000 in
set_option maxHeartbeats 6400000 in
theorem goal_any (w0 : World) (W hb : Nat) (c : CC) (xA : Option Addr) (xn xc : Nat) (H : Int) (wv : Value) (s : WP) (g : Int × Int × Int) (have_ : Int) (w : World) (h : WAt w0 w W hb c xA xn xc H wv s) (hm : s.wait.length ≤ 1099511627776) (hh : have_ < 9223372036854775808) :
    Calls Tryd.prog 48 #[.pointer (some ⟨W, 0, none⟩), .agg #[.int .i64 g.1, .int .i64 g.2.1, .int .i64 g.2.2], .int .i64 have_] w fun e w' => e = .returned (.tuple #[]) ∧ ∃ wv', WAt w0 w' W hb c xA xn xc H wv' (goalP xn H s g have_) := by
  obtain ⟨a, k, q⟩ := g
  simp only at *
  have hka : Kept S0 w (w.alloc (.cells #[.int .i64 a, .int .i64 k, .int .i64 q] 113)) := (Kept.refl S0 w).alloc _
  have HB := Lib.hid (Blk.new w 113 #[.int .i64 a, .int .i64 k, .int .i64 q])
  have hw2 := h.kept0 hka
  have HW := Lib.hid hw2
  have c15 : (w.alloc (.cells #[.int .i64 a, .int .i64 k, .int .i64 q] 113)).cell? ⟨W, 15, none⟩ = some (.bool s.no) := hw2.blk.cell 15
  have f15 := hw2.blk.frozen 15
  clear h hka hw2
  have d0 := Lib.hid (show goalP xn H s (a, k, q) have_ = if k < 0 ∨ q < 0 ∨ have_ < k ∨ have_ - k < q then { s with no := true } else walkTo xn H s a (q + k) from rfl)
  generalize goalP xn H s (a, k, q) have_ = r at *
  by_cases h1 : k < 0
  · have HT := Lib.hid (d0.out.trans (if_pos (.inl h1)))
    clear d0
    go_enter Tryd.func48, Tryd.ntmps48
    go_wp2_with fail
    refine bodyPost_ret (results_none rfl _ _ _) rfl ?_
    exact ⟨rfl, wv, by rw [HT.out]; exact HW.out.setNo true⟩
  by_cases h2 : q < 0
  · have HT := Lib.hid (d0.out.trans (if_pos (.inr (.inl h2))))
    clear d0
    go_enter Tryd.func48, Tryd.ntmps48
    go_wp2_with fail
    refine bodyPost_ret (results_none rfl _ _ _) rfl ?_
    exact ⟨rfl, wv, by rw [HT.out]; exact HW.out.setNo true⟩
  by_cases h3 : have_ < k
  · have HT := Lib.hid (d0.out.trans (if_pos (.inr (.inr (.inl h3)))))
    clear d0
    go_enter Tryd.func48, Tryd.ntmps48
    go_wp2_with fail
    refine bodyPost_ret (results_none rfl _ _ _) rfl ?_
    exact ⟨rfl, wv, by rw [HT.out]; exact HW.out.setNo true⟩
  have us : IntKind.i64.wrap (have_ - k) = have_ - k := IntWalk.i64_in _ (by omega)
  by_cases h4 : have_ - k < q
  · have HT := Lib.hid (d0.out.trans (if_pos (.inr (.inr (.inr h4)))))
    clear d0
    go_enter Tryd.func48, Tryd.ntmps48
    go_wp2_with fail
    refine bodyPost_ret (results_none rfl _ _ _) rfl ?_
    exact ⟨rfl, wv, by rw [HT.out]; exact HW.out.setNo true⟩
  · have HT := Lib.hid (d0.out.trans (if_neg (by omega)))
    clear d0
    have ua : IntKind.i64.wrap (q + k) = q + k := IntWalk.i64_in _ (by omega)
    have HC := Lib.hid (to_any w0 W hb c xA xn xc H wv s a (q + k) _ HW.out hm)
    go_enter Tryd.func48, Tryd.ntmps48
    go_wp2_with (go_at_call 28; refine HC.out.mono ?_; rintro e w' ⟨rfl, wv', hw'⟩)
    go_end0
    exact ⟨rfl, wv', by rw [HT.out]; exact hw'⟩
end Go.Proofs.YtfmblalbcodpmaaDoor
namespace Go.Proofs.YtfmblalbcodpmaaDoor
open Go.RowKit
theorem kp0 {w w' : World} {p : Addr} {v : Value} (hk : Kept S0 w w') (h : w.cell? p = some v) : w'.cell? p = some v := (hk.cell (World.block_lt_of_cell? _ _ h) (fun x => x)).trans h
/-- What a step does. -/
def stepP (xn : Nat) (H : Int) (p : CtxP) (x : FlP) (s : WP) (at_ : Int) (h : Int) : WP :=
  if x.op = 12 then goalP xn H s (x.dst, x.keep, x.height) h
  else if x.op = 13 then walkTo xn H (goalP xn H { s with no := s.no || decide (h < 1) } (x.dst, x.keep, x.height) (h - 1)) (at_ + 1) (h - 1)
  else if x.op = 14 then x.L.foldl (fun s g => goalP xn H s g (h - 1)) { s with no := s.no || decide (h < 1) }
  else if x.op = 4 then walkTo xn H (walkTo xn H { s with no := s.no || decide (h < 1) } x.dst (h - 1)) (at_ + 1) (h - 1)
  else if x.op = 5 then walkTo xn H s x.dst h
  else if x.op = 15 then { s with no := s.no || decide (h < (p.results.length : Int)) }
  else if x.op = 0 then s
  else walkTo xn H { s with no := s.no || decide (h < ((EffectP p x.ins .nil .nil).1 : Int)) } (at_ + 1) (h - ((EffectP p x.ins .nil .nil).1 : Int) + ((EffectP p x.ins .nil .nil).2.1 : Int))
theorem inf_lens (o : Nat) (i : Inf) (h : inf o = some i) : i.2.2.2.1.length ≤ 9 ∧ i.2.2.2.2.length ≤ 9 := by
  have hp : ∀ l : List (Option Inf), (l.all fun x => match x with | some i => decide (i.2.2.2.1.length ≤ 9) && decide (i.2.2.2.2.length ≤ 9) | none => true) = true → ∀ n i, l.getD n none = some i → i.2.2.2.1.length ≤ 9 ∧ i.2.2.2.2.length ≤ 9 := fun l hl n i hi => by
    rw [List.getD_eq_getElem?_getD] at hi
    cases hq : l[n]? with
    | none => rw [hq] at hi; cases hi
    | some x =>
      rw [hq] at hi
      simp only [Option.getD_some] at hi
      subst hi
      have := List.all_eq_true.1 hl _ (List.mem_of_getElem? hq)
      simpa using this
  unfold inf at h
  split at h
  · exact hp pageA (by kernel_rfl) _ _ h
  · split at h
    · exact hp pageC (by kernel_rfl) _ _ h
    · split at h
      · exact hp pageD (by kernel_rfl) _ _ h
      · cases h
theorem SlFT.lens {w : World} {A : Option Addr} {n c : Nat} {l : List FTy} (h : SlFT w A n c l) (a : Nat) : (l.getD a ([], [])).1.length ≤ 140737488355328 ∧ (l.getD a ([], [])).2.length ≤ 140737488355328 := by
  rw [List.getD_eq_getElem?_getD]
  cases hq : l[a]? with
  | none => exact ⟨Nat.zero_le _, Nat.zero_le _⟩
  | some q =>
    have h1 := (List.getElem?_eq_some_iff.1 hq).1
    have h2 := h.len
    obtain ⟨b, o, _, hc⟩ := h.at_ (by omega)
    obtain ⟨pA, pn, pc, rA, rn, rc, _, _, h3, h4, h5, h6⟩ := hc a q hq
    have h7 := h3.len
    have h8 := h4.len
    rw [List.length_map] at h7 h8
    simp only [Option.getD_some]
    omega
theorem EffectP_le {w : World} {c : CC} (p : CtxP) (x : Ins) (bd el : Fo) (hc : CtxAt w c p) : (EffectP p x bd el).1 ≤ 1000000000000000 ∧ (EffectP p x bd el).2.1 ≤ 1000000000000000 := by
  have hz : (0 : Nat) ≤ 1000000000000000 := Nat.zero_le _
  unfold EffectP
  split
  · exact ⟨hz, hz⟩
  · rename_i i hi
    have hl := inf_lens _ _ hi
    have hf := hc.funcs.lens x.a
    have ht := hc.types.lens x.a
    split
    · exact ⟨hz, hz⟩
    split
    · exact ⟨hz, hz⟩
    split
    · exact ⟨hz, hz⟩
    split
    · exact ⟨hz, hz⟩
    · unfold effectP
      repeat' split
      all_goals (simp only; omega)
/-- How many have no height yet. -/
def negs (l : List Int) : Nat := l.countP fun v => decide (v < 0)
def phi (s : WP) : Nat := s.wait.length + negs s.high
theorem negs_set : ∀ (l : List Int) (k : Nat) (v : Int), k < l.length → l.getD k 0 < 0 → 0 ≤ v → negs (l.set k v) + 1 = negs l
  | [], k, v, h, _, _ => absurd h (by simp)
  | x :: r, 0, v, _, hx, hv => by
    simp only [List.getD_cons_zero] at hx
    simp [negs, hx, show ¬ v < 0 by omega]
  | x :: r, k + 1, v, h, hx, hv => by
    have h1 := negs_set r k v (by simpa using h) (by simpa using hx) hv
    simp only [negs, List.set_cons_succ, List.countP_cons] at h1 ⊢
    omega
theorem negs_le (l : List Int) : negs l ≤ l.length := List.countP_le_length
section
variable {xn : Nat} {H : Int} {s : WP} {at_ v : Int}
theorem walkTo_len (hl : s.high.length = xn) : (walkTo xn H s at_ v).high.length = xn := by
  unfold walkTo
  split
  · exact hl
  · split
    · simpa using hl
    · split <;> exact hl
theorem walkTo_phi (hl : s.high.length = xn) (hv : 0 ≤ v) : phi (walkTo xn H s at_ v) ≤ phi s := by
  unfold walkTo
  split
  · exact Nat.le_refl _
  · rename_i h1
    split
    · rename_i h2
      have h3 : at_.toNat < s.high.length := by omega
      have h4 := negs_set s.high at_.toNat v h3 h2 hv
      unfold phi
      simp only [List.length_append, List.length_cons, List.length_nil]
      omega
    · split <;> exact Nat.le_refl _
theorem walkTo_wait : (walkTo xn H s at_ v).wait.length ≤ s.wait.length + 1 := by
  unfold walkTo
  split
  · exact Nat.le_succ _
  · split
    · simp
    · split <;> exact Nat.le_succ _
theorem goalP_len {g : Int × Int × Int} (hl : s.high.length = xn) : (goalP xn H s g v).high.length = xn := by
  unfold goalP
  split
  · exact hl
  · exact walkTo_len hl
theorem goalP_phi {g : Int × Int × Int} (hl : s.high.length = xn) : phi (goalP xn H s g v) ≤ phi s := by
  unfold goalP
  split
  · exact Nat.le_refl _
  · exact walkTo_phi hl (by omega)
theorem goalP_wait {g : Int × Int × Int} : (goalP xn H s g v).wait.length ≤ s.wait.length + 1 := by
  unfold goalP
  split
  · exact Nat.le_succ _
  · exact walkTo_wait
theorem goals_phi : ∀ (L : List (Int × Int × Int)) (s : WP), s.high.length = xn → phi (L.foldl (fun s g => goalP xn H s g v) s) ≤ phi s
  | [], _, _ => Nat.le_refl _
  | _ :: r, _, h => Nat.le_trans (goals_phi r _ (goalP_len h)) (goalP_phi h)
end
end Go.Proofs.YtfmblalbcodpmaaDoor
