/- What the proofs lean on, part 4 of Fm. No condition. -/
import Derived.Test.YtfmblalbcodpmaaDoorMDoa
import Derived.Test.YtfmblalbcodpmaaDoorMDob
import Derived.Test.YtfmblalbcodpmaaDoorMDoc
import Derived.Test.YtfmblalbcodpmaaDoorMDod
import Derived.Test.YtfmblalbcodpmaaDoorMDoh
import Derived.Test.YtfmblalbcodpmaaDoorMFma
import Derived.Test.YtfmblalbcodpmaaDoorMFmb
import Derived.Test.YtfmblalbcodpmaaDoorMFmc
namespace Go.Proofs.YtfmblalbcodpmaaDoor
open Go.RowKit
section
variable {w0 w : World} {W hb : Nat} {c : CC} {xA : Option Addr} {xn xc : Nat} {H : Int} {wv : Value} {s : WP}
/-- The last to visit is taken. -/
theorem WAt.pop {A : Option Addr} {n cc : Nat} {l : List Int} (h : WAt w0 w W hb c xA xn xc H (.slice A n cc) s) (hs : s.wait.length = n) (hl : l = s.wait.dropLast) : WAt w0 (w.setCell ⟨W, 14, none⟩ (.slice A (n - 1) cc)) W hb c xA xn xc H (.slice A (n - 1) cc) { s with wait := l } := by
  have hk : Kept (S1 W) w (w.setCell ⟨W, 14, none⟩ (.slice A (n - 1) cc)) := (Kept.refl (S1 _) w).setCell (p := ⟨_, _, none⟩) (.inl rfl) _
  have hob : (Value.slice A (n - 1) cc).ownBlock = (Value.slice A n cc).ownBlock := by cases A <;> rfl
  refine ⟨h.blk.set_ 14 _, h.low, h.hi.kept hk (fun g e x => h.neW (by cases e; exact x.symm)), ?_, by rw [hob]; exact h.ne, h.kept.setCell (.inr h.low) _⟩
  have h1 := h.wt
  rw [hs] at h1
  have h2 : (s.wait.map i64V).take ((n - 1) * 1) = l.map i64V := by
    rw [hl, Nat.mul_one, ← List.map_take, List.dropLast_eq_take, hs]
  have h3 := ((h1.take (m := n - 1) (Nat.sub_le _ _)).congr h2)
  have h4 : l.length = n - 1 := by rw [hl, List.length_dropLast, hs]
  rw [show ({ s with wait := l } : WP).wait.length = n - 1 from h4]
  exact h3.kept hk (fun g e x => h.neV (by rw [← hob, e, x]))
end
set_option maxRecDepth 100000 in
set_option maxHeartbeats 16000000 in
theorem heights_any (c : CC) (p : CtxP) (xA : Option Addr) (xn xc : Nat) (l : List FlP) (H : Int) (w : World) (hc : CtxAt w c p) (hl : SlFl w xA xn xc l) (hsp : SpTab w) (hH : H ≤ 1000000000000000000) (hxn : xn ≤ 1000000000000000) :
    Calls Tryd.prog 12 #[.agg c.arr, .agg #[.slice xA xn xc, .int .i64 H]] w fun e w' => Kept S0 w w' ∧
      ((heightsP p l H = none ∧ e = .returned (.tuple #[.slice none 0 0, .int .i64 5])) ∨ ∃ hs hb, heightsP p l H = some hs ∧ hs.length = xn ∧ e = .returned (.tuple #[.slice (some ⟨hb, 0, none⟩) xn xn, .int .i64 0]) ∧ SlL w' 1 (some ⟨hb, 0, none⟩) xn xn (hs.map i64V)) := by
  have HP := Lib.hid (show heightsP p l H = if l.length < 1 ∨ 65536 < l.length ∨ (l.any fun x => !namedP p x) = true then none else (if (runP l.length H p l (l.length + 2) (walkTo l.length H (initW l.length) 0 0)).no = true then none else some (runP l.length H p l (l.length + 2) (walkTo l.length H (initW l.length) 0 0)).high) from rfl)
  have hka : Kept S0 w ((w.alloc (.cells c.arr 30)).alloc (.cells #[.slice xA xn xc, .int .i64 H] 33)) := ((Kept.refl S0 w).alloc _).alloc _
  have hb1 : Blk ((w.alloc (.cells c.arr 30)).alloc (.cells #[.slice xA xn xc, .int .i64 H] 33)) w.heap.size 30 c.arr := (Blk.new w _ _).alloc _
  have hb2 : Blk ((w.alloc (.cells c.arr 30)).alloc (.cells #[.slice xA xn xc, .int .i64 H] 33)) (w.heap.size + 1) 33 #[.slice xA xn xc, .int .i64 H] := Blk.new1 w _ _ _
  have HKA := Lib.hid hka
  have HC := Lib.hid (hc.kept0 hka)
  have HL := Lib.hid (hl.kept0 hka)
  have HSP := Lib.hid (hsp.kept0 hka)
  have HLN := Lib.hid hl.len
  have HHH := Lib.hid hH
  generalize heightsP p l H = hp at *
  clear hka hc hl hsp hH
  have hca : c.arr = #[.slice c.tyA c.tyn c.tyc, .slice c.fuA c.fun_ c.fuc, .slice c.taA c.tan c.tac, .slice c.meA c.men c.mec, .slice c.glA c.gln c.glc, .slice c.elA c.eln c.elc, .int .i64 c.datas, .slice c.reA c.ren c.rec_, .slice c.loA c.lon c.loc, .slice c.rsA c.rsn c.rsc, .int .i64 c.fixed] := rfl
  rw [hca] at hb1 HC HL HSP HKA hb2 ⊢
  clear hca
  have HB1 := Lib.hid hb1
  have HB2 := Lib.hid hb2
  clear hb1 hb2
  go_enter Tryd.func12, Tryd.ntmps12
  go_upto_region 1 with fail
  generalize ((w.alloc (.cells #[.slice c.tyA c.tyn c.tyc, .slice c.fuA c.fun_ c.fuc, .slice c.taA c.tan c.tac, .slice c.meA c.men c.mec, .slice c.glA c.gln c.glc, .slice c.elA c.eln c.elc, .int .i64 c.datas, .slice c.reA c.ren c.rec_, .slice c.loA c.lon c.loc, .slice c.rsA c.rsn c.rsc, .int .i64 c.fixed] 30)).alloc (.cells #[.slice xA xn xc, .int .i64 H] 33)) = w2 at *
  generalize hg : w.heap.size = g at *
  have e0 : w2.cell? ⟨g + 1, 0, none⟩ = some (.slice xA xn xc) := HB2.out.cell 0
  have HCF := Lib.hid (cff_any g c p xA xn xc l w2 HB1.out HC.out HL.out HSP.out (by omega))
  by_cases h1 : xn < 1
  · have HR := Lib.hid (show hp = none from HP.out.trans (if_pos (.inl (by have := HLN.out; omega))))
    have h1i : (xn : Int) < 1 := by omega
    go_wp2_with fail
    go_ret2
    exact ⟨HKA.out, .inl ⟨HR.out, rfl⟩⟩
  have h1i : ¬ (xn : Int) < 1 := by omega
  by_cases h2 : 65536 < xn
  · have HR := Lib.hid (show hp = none from HP.out.trans (if_pos (.inr (.inl (by have := HLN.out; omega)))))
    have h2i : (65536 : Int) < (xn : Int) := by omega
    go_wp2_with fail
    go_ret2
    exact ⟨HKA.out, .inl ⟨HR.out, rfl⟩⟩
  have h2i : ¬ (65536 : Int) < (xn : Int) := by omega
  cases hany : (l.any fun x => !namedP p x) with
  | true =>
    rw [hany] at HCF
    have HR := Lib.hid (show hp = none from HP.out.trans (if_pos (.inr (.inr hany))))
    clear hany
    go_wp2_with (go_at_call 25; refine HCF.out.mono ?_; rintro e w3 ⟨rfl, hk3⟩)
    go_ret2
    exact ⟨HKA.out.then0 hk3, .inl ⟨HR.out, rfl⟩⟩
  | false =>
    rw [hany] at HCF
    have HR := Lib.hid (HP.out.trans (if_neg (by rw [hany]; have := HLN.out; rintro (h | h | h) <;> first | omega | cases h)))
    clear hany HP
    go_upto_region 4 with (go_at_call 25; refine HCF.out.mono ?_; rintro e w3 ⟨rfl, hk3⟩)
    rw [← HLN.out] at HR
    have HB13 := Lib.hid (hk3.blk HB1.out (fun x => x))
    have HB23 := Lib.hid (hk3.blk HB2.out (fun x => x))
    have HK3 := Lib.hid (HKA.out.then0 hk3)
    have HC3 := Lib.hid (HC.out.kept0 hk3)
    have HL3 := Lib.hid (HL.out.kept0 hk3)
    have HSP3 := Lib.hid (HSP.out.kept0 hk3)
    clear e0 HCF hk3 HB1 HB2 HKA HC HL HSP
    refine wp_region_R (fun w' => Kept S0 w3 w') [] (by kernel_rfl) ?_
    have hS : Kept S0 w3 w3.drew := (Kept.refl S0 w3).drew
    generalize w3.drew = w4 at *
    refine wpAnyR_take 0 (v := .agg #[.slice c.tyA c.tyn c.tyc, .slice c.fuA c.fun_ c.fuc, .slice c.taA c.tan c.tac, .slice c.meA c.men c.mec, .slice c.glA c.gln c.glc, .slice c.elA c.eln c.elc, .int .i64 c.datas, .slice c.reA c.ren c.rec_, .slice c.loA c.lon c.loc, .slice c.rsA c.rsn c.rsc, .int .i64 c.fixed]) rfl (by kernel_rfl) (by kernel_rfl) (by kernel_rfl) (by kernel_rfl) (fun _ _ _ h => h) hS ⟨by rfl, fun w hSw => exec_load_row 30 _ rfl w g rfl 30 #[.slice c.tyA c.tyn c.tyc, .slice c.fuA c.fun_ c.fuc, .slice c.taA c.tan c.tac, .slice c.meA c.men c.mec, .slice c.glA c.gln c.glc, .slice c.elA c.eln c.elc, .int .i64 c.datas, .slice c.reA c.ren c.rec_, .slice c.loA c.lon c.loc, .slice c.rsA c.rsn c.rsc, .int .i64 c.fixed] (0, 0) _ (hSw.blk HB13.out (fun x => x)) Tryd.underlying30 rfl (by kernel_rfl)⟩ ?_
    simp only [List.getElem_toArray, List.getElem_cons_zero, Act.put, List.setIfInBounds_toArray, List.set_cons_zero, List.set_cons_succ]
    refine wpAnyR_take 1 (v := .agg #[.slice xA xn xc, .int .i64 H]) rfl (by kernel_rfl) (by kernel_rfl) (by kernel_rfl) (by kernel_rfl) (fun _ _ _ h => h) hS ⟨by rfl, fun w hSw => exec_load_row 33 _ rfl w (g + 1) rfl 33 #[.slice xA xn xc, .int .i64 H] (0, 0) _ (hSw.blk HB23.out (fun x => x)) Tryd.underlying33 rfl (by kernel_rfl)⟩ ?_
    simp only [List.getElem_toArray, List.getElem_cons_zero, List.getElem_cons_succ, Act.put, List.setIfInBounds_toArray, List.set_cons_zero, List.set_cons_succ]
    refine wpAnyR_take 2 (v := ?_) rfl (by kernel_rfl) (by kernel_rfl) (by kernel_rfl) (by kernel_rfl) (fun _ _ _ h => h) hS ⟨by rfl, ?_⟩ ?_
    rotate_left; (intro w hSw; (try dsimp only at hSw); first | (go_simp; done) | (go_simp; with_reducible rfl))
    simp only [List.getElem_toArray, List.getElem_cons_zero, List.getElem_cons_succ, Act.put, List.setIfInBounds_toArray, List.set_cons_zero, List.set_cons_succ]
    have hmk := fun W => run_make_row' (P := Tryd.prog) 47 3 (.int .i64 0) 8 Tryd.underlying47 Tryj.infoI rfl .i64 .i64 xn (by omega) (by omega) W
    refine wpAnyR_one 3 rfl (by kernel_rfl) (fun K hK => ?_)
    go_simp
    have hS5 : Kept S0 w3 (w4.alloc (.cells (madeCells #[.int .i64 0] xn) 3)) := hS.alloc _
    have HOW := Lib.hid (show OwnL (w4.alloc (.cells (madeCells #[.int .i64 0] xn) 3)) w3.heap.size 3 1 (.slice (some ⟨w4.heap.size, 0, none⟩) xn xn) xn ((List.replicate xn (0 : Int)).map i64V) from
      ⟨by simp, (Own.made hS.size trivial xn (by unfold maxLen; omega)).congr (fun i hi => by
        rw [Nat.mul_one] at hi
        simp [ofL, i64V, hi])⟩)
    refine hK.out _ _ (fun _ => hS5) ?_
    clear hK K hmk
    have HGH := Lib.hid hS.size
    clear hS
    generalize (w4.alloc (.cells (madeCells #[.int .i64 0] xn) 3)) = w5 at *
    generalize w4.heap.size = hb at *
    refine wpAnyR_take 4 (v := ?_) rfl (by kernel_rfl) (by kernel_rfl) (by kernel_rfl) (by kernel_rfl) (fun _ _ _ h => h) hS5 ⟨by rfl, ?_⟩ ?_
    rotate_left; (intro w hSw; (try dsimp only at hSw); first | (go_simp; done) | (go_simp; with_reducible rfl))
    simp only [List.getElem_toArray, List.getElem_cons_zero, List.getElem_cons_succ, Act.put, List.setIfInBounds_toArray, List.set_cons_zero, List.set_cons_succ]
    refine wpAnyR_one 5 rfl (by kernel_rfl) (fun K hK => ?_)
    go_simp
    have hS6 : Kept S0 w3 (w5.alloc (.cells #[.slice c.tyA c.tyn c.tyc, .slice c.fuA c.fun_ c.fuc, .slice c.taA c.tan c.tac, .slice c.meA c.men c.mec, .slice c.glA c.gln c.glc, .slice c.elA c.eln c.elc, .int .i64 c.datas, .slice c.reA c.ren c.rec_, .slice c.loA c.lon c.loc, .slice c.rsA c.rsn c.rsc, .int .i64 c.fixed, .slice xA xn xc, .int .i64 H, .slice (some ⟨hb, 0, none⟩) xn xn, .slice none 0 0, .bool false] 80)) := hS5.alloc _
    have HW := Lib.hid (show WAt w3 (w5.alloc (.cells #[.slice c.tyA c.tyn c.tyc, .slice c.fuA c.fun_ c.fuc, .slice c.taA c.tan c.tac, .slice c.meA c.men c.mec, .slice c.glA c.gln c.glc, .slice c.elA c.eln c.elc, .int .i64 c.datas, .slice c.reA c.ren c.rec_, .slice c.loA c.lon c.loc, .slice c.rsA c.rsn c.rsc, .int .i64 c.fixed, .slice xA xn xc, .int .i64 H, .slice (some ⟨hb, 0, none⟩) xn xn, .slice none 0 0, .bool false] 80)) w5.heap.size hb c xA xn xc H (.slice none 0 0) ⟨List.replicate 0 (-1) ++ List.replicate (xn - 0) 0, [], false⟩ from
      ⟨Blk.new w5 _ _, hS5.size, by rw [List.replicate_zero, List.nil_append, Nat.sub_zero]; exact HOW.out.kept0 ((Kept.refl S0 w5).alloc _), OwnL.nil _ _ _ _, by simp [Value.ownBlock], hS6⟩)
    refine hK.out _ _ (fun _ => hS6) ?_
    clear hK K hS5 HOW HGH
    generalize (w5.alloc (.cells #[.slice c.tyA c.tyn c.tyc, .slice c.fuA c.fun_ c.fuc, .slice c.taA c.tan c.tac, .slice c.meA c.men c.mec, .slice c.glA c.gln c.glc, .slice c.elA c.eln c.elc, .int .i64 c.datas, .slice c.reA c.ren c.rec_, .slice c.loA c.lon c.loc, .slice c.rsA c.rsn c.rsc, .int .i64 c.fixed, .slice xA xn xc, .int .i64 H, .slice (some ⟨hb, 0, none⟩) xn xn, .slice none 0 0, .bool false] 80)) = w6 at *
    generalize w5.heap.size = W at *
    refine wpAnyR_take 6 (v := ?_) rfl (by kernel_rfl) (by kernel_rfl) (by kernel_rfl) (by kernel_rfl) (fun _ _ _ h => h) hS6 ⟨by rfl, ?_⟩ ?_
    rotate_left; (intro w hSw; (try dsimp only at hSw); first | (go_simp; done) | (go_simp; with_reducible rfl))
    simp only [List.getElem_toArray, List.getElem_cons_zero, List.getElem_cons_succ, Act.put, List.setIfInBounds_toArray, List.set_cons_zero, List.set_cons_succ]
    refine wpAnyR_done (by kernel_rfl) ?_ _
    clear hS6
    have c13 : w6.cell? ⟨W, 13, none⟩ = some (.slice (some ⟨hb, 0, none⟩) xn xn) := HW.out.blk.cell 13
    have HXN := Lib.hid (And.intro h1 h2)
    clear h1 h2 h1i h2i hxn
    go_wp2_with fail
    go_loopw [36] (fun i wr => ∃ j : Nat, j ≤ xn ∧ i = .int .i64 (j : Int) ∧ WAt w3 wr W hb c xA xn xc H (.slice none 0 0) ⟨List.replicate j (-1) ++ List.replicate (xn - j) 0, [], false⟩) (fun i _ => xn + 1 - (intOf i).toNat)
    case atStart => exact ⟨0, Nat.zero_le _, rfl, HW.out⟩
    case round =>
      obtain ⟨j, hj, rfl, hwr⟩ := hrel
      have HWR := Lib.hid hwr
      have c13 : wr.cell? ⟨W, 13, none⟩ = some (.slice (some ⟨hb, 0, none⟩) xn xn) := hwr.blk.cell 13
      clear hwr
      by_cases hlt : j < xn
      · have hlti : (j : Int) < (xn : Int) := by omega
        have fj := HWR.out.hi.frozen j
        have cj : wr.cell? ⟨hb, j, none⟩ = some (.int .i64 0) := HWR.out.hi.cell (by rw [List.getElem?_map, List.getElem?_append_right (by simp), List.length_replicate, Nat.sub_self, List.getElem?_replicate, if_pos (by omega)]; rfl)
        have hxb : (xn : Int) ≤ 65536 := by have := HXN.out.2; omega
        go_wp2_with fail
        go_roundw
        case rel =>
          refine ⟨j + 1, hlt, by go_num, ?_⟩
          have h9 := HWR.out.setHigh j hlt (-1)
          have h8 : (List.replicate j (-1 : Int) ++ List.replicate (xn - j) 0).set j (-1) = List.replicate (j + 1) (-1) ++ List.replicate (xn - (j + 1)) 0 := by
            rw [List.set_append_right _ _ (by simp), List.length_replicate, Nat.sub_self, show xn - j = xn - (j + 1) + 1 by omega, List.replicate_succ, List.set_cons_zero, List.replicate_succ', List.append_assoc]
            rfl
          simp only [h8] at h9
          exact h9
        case measure => simp [intOf]; omega
      · have HI := Lib.hid (show WAt w3 wr W hb c xA xn xc H (.slice none 0 0) (initW xn) from by
          have h9 := HWR.out
          rw [show j = xn by omega, Nat.sub_self, List.replicate_zero, List.append_nil] at h9
          exact h9)
        have HTO := Lib.hid (to_any w3 W hb c xA xn xc H (.slice none 0 0) (initW xn) 0 0 wr HI.out (Nat.zero_le _))
        clear HW HWR
        go_wp2_with (go_at_call 28; refine HTO.out.mono ?_; rintro e w7 ⟨rfl, wv7, hw7⟩)
        have HG7 := Lib.hid (show Good xn H (walkTo xn H (initW xn) 0 0) from Good.walkTo ⟨by simp [initW], by simp [initW], fun v hv => .inl (by simpa [initW] using (List.mem_replicate.1 hv).2), by simp [initW]⟩ (fun _ => Int.le_refl 0))
        have HP7 := Lib.hid (show phi (walkTo xn H (initW xn) 0 0) ≤ xn from Nat.le_trans (walkTo_phi (by simp [initW]) (Int.le_refl 0)) (by simpa [phi, initW] using negs_le (List.replicate xn (-1))))
        have HW7 := Lib.hid hw7
        clear hw7 c13
        generalize walkTo xn H (initW xn) 0 0 = s7 at *
        go_loopg [] (xn + 2) (fun k wr => ∃ (s : WP) (wv : Value), WAt w3 wr W hb c xA xn xc H wv s ∧ Good xn H s ∧ (s.no = false → phi s < k) ∧ (s.no = false → phi s ≤ xn) ∧ runP xn H p l k s = runP xn H p l (xn + 2) s7)
        case atStart => exact ⟨s7, wv7, HW7.out, HG7.out, fun _ => by have := HP7.out; omega, fun _ => HP7.out, rfl⟩
        case round =>
          obtain ⟨s, wv, hws, hgs, hph, hpx, hrun⟩ := hrel
          have HS := Lib.hid hws
          have HGS := Lib.hid hgs
          have HPH := Lib.hid hph
          have HPX := Lib.hid hpx
          have HRN := Lib.hid hrun
          clear hws hgs hph hpx hrun
          have c15 : wr.cell? ⟨W, 15, none⟩ = some (.bool s.no) := HS.out.blk.cell 15
          have c13 : wr.cell? ⟨W, 13, none⟩ = some (.slice (some ⟨hb, 0, none⟩) xn xn) := HS.out.blk.cell 13
          obtain ⟨A, cw, rfl, _⟩ := HS.out.wt.out
          obtain ⟨n, hn⟩ : ∃ n, s.wait.length = n := ⟨_, rfl⟩
          have HN := Lib.hid hn
          rw [hn] at HS
          clear hn
          have c14 : wr.cell? ⟨W, 14, none⟩ = some (.slice A n cw) := HS.out.blk.cell 14
          cases hno : s.no with
          | true =>
            rw [hno] at c15
            have HX := Lib.hid (show runP xn H p l (xn + 2) s7 = s from by
              rw [← HRN.out]
              cases gk with
              | zero => rfl
              | succ q => unfold runP; rw [if_pos hno])
            have HR2 := Lib.hid (show hp = none from HR.out.trans (if_pos (by rw [HX.out]; exact hno)))
            clear hno
            by_cases h0 : n = 0
            · subst h0
              go_wp2_with fail
              go_ret2
              exact ⟨HK3.out.then0 HS.out.kept, .inl ⟨HR2.out, rfl⟩⟩
            · have hni : (0 : Int) < (n : Int) := by omega
              go_wp2_with fail
              go_ret2
              exact ⟨HK3.out.then0 HS.out.kept, .inl ⟨HR2.out, rfl⟩⟩
          | false =>
            rw [hno] at c15
            by_cases h0 : n = 0
            · have HX := Lib.hid (show runP xn H p l (xn + 2) s7 = s from by
                rw [← HRN.out]
                have hw0 : s.wait = [] := List.length_eq_zero_iff.1 (HN.out.trans h0)
                cases gk with
                | zero => rfl
                | succ q => unfold runP; rw [if_neg (by rw [hno]; simp), hw0]; rfl)
              have HR2 := Lib.hid (show hp = some s.high from HR.out.trans (by rw [HX.out, if_neg (by rw [hno]; simp)]))
              subst h0
              have HNO := Lib.hid hno
              clear hno
              go_wp2_with fail
              go_ret2
              obtain ⟨A2, c2, e2, h8⟩ := HS.out.hi.out
              cases e2
              exact ⟨HK3.out.then0 HS.out.kept, Or.inr ⟨s.high, hb, HR2.out, HS.out.len, rfl, h8⟩⟩
            · obtain ⟨gw, rfl, _, hncw, hcm⟩ := (show OwnL wr w3.heap.size 3 1 (.slice A n cw) n (s.wait.map i64V) from HN.out ▸ HS.out.wt).some (by omega)
              obtain ⟨m, hm⟩ : ∃ m, n - 1 = m := ⟨_, rfl⟩
              obtain ⟨az, haz⟩ : ∃ az, s.wait[m]? = some az := ⟨_, List.getElem?_eq_getElem (by have := HN.out; omega)⟩
              have haw := HGS.out.wait az (List.mem_of_getElem? haz)
              obtain ⟨na, rfl⟩ : ∃ na : Nat, az = (na : Int) := ⟨az.toNat, by omega⟩
              have hna : na < xn := by omega
              have hlast : s.wait.getLast? = some (na : Int) := by rw [List.getLast?_eq_getElem?, HN.out, hm]; exact haz
              obtain ⟨x, hx⟩ : ∃ x, l[na]? = some x := ⟨_, List.getElem?_eq_getElem (by have := HLN.out; omega)⟩
              obtain ⟨h_, hh⟩ : ∃ h_, s.high[na]? = some h_ := ⟨_, List.getElem?_eq_getElem (by have := HGS.out.len; omega)⟩
              have hhd : s.high.getD na 0 = h_ := by rw [List.getD_eq_getElem?_getD, hh]; rfl
              have hge : 0 ≤ h_ := by
                have h9 := HGS.out.ge hno _ (List.mem_of_getElem? haz)
                rw [Int.toNat_natCast, hhd] at h9
                exact h9
              have hle : h_ ≤ 1000000000000000000 := by
                have h9 := HGS.out.le h_ (List.mem_of_getElem? hh)
                have h8 := HHH.out
                omega
              have hkk : ∃ q, gk = q + 1 := ⟨gk - 1, by have := HPH.out hno; omega⟩
              obtain ⟨q, hq⟩ := hkk
              obtain ⟨sp, hsp⟩ : ∃ sp : WP, sp = { s with wait := s.wait.dropLast } := ⟨_, rfl⟩
              have hpp : phi sp + 1 = phi s := by
                rw [hsp]
                unfold phi
                simp only [List.length_dropLast]
                have := HN.out
                omega
              have HRN2 := Lib.hid (show runP xn H p l q (stepP xn H p x sp (na : Int) h_) = runP xn H p l (xn + 2) s7 from by
                rw [← HRN.out, hq]
                conv => rhs; unfold runP
                rw [if_neg (by rw [hno]; simp), hlast]
                simp only [Int.toNat_natCast, hx, hhd, hsp])
              have HGP := Lib.hid (show Good xn H sp from by
                rw [hsp]
                exact ⟨HGS.out.len, fun a ha => HGS.out.wait a (List.dropLast_subset _ ha), HGS.out.le, fun e a ha => HGS.out.ge e a (List.dropLast_subset _ ha)⟩)
              have HSH := Lib.hid (show sp.high[na]? = some h_ by rw [hsp]; exact hh)
              have HX := Lib.hid hx
              have HB0 := Lib.hid (And.intro hge hle)
              have HPP := Lib.hid (show phi sp + 1 ≤ xn ∧ phi sp < q by have h9 := HPH.out hno; have h8 := HPX.out hno; omega)
              have HQ := Lib.hid hq
              have cl : wr.cell? ⟨gw, m, none⟩ = some (.int .i64 (na : Int)) := (show OwnL wr w3.heap.size 3 1 (.slice (some ⟨gw, 0, none⟩) n cw) n (s.wait.map i64V) from HN.out ▸ HS.out.wt).cell (by rw [List.getElem?_map, haz]; rfl)
              have um : IntKind.i64.wrap ((n : Int) - 1) = (m : Int) := by
                rw [IntWalk.i64_in _ (by unfold maxLen at hcm; omega)]
                omega
              have hmn : m < n := by omega
              have hmc : m ≤ cw := by omega
              have hni : (0 : Int) < (n : Int) := by omega
              have hmi : (m : Int) < (n : Int) := by omega
              have HSP9 := Lib.hid (show ∀ w9 : World, WAt w3 w9 W hb c xA xn xc H (.slice (some ⟨gw, 0, none⟩) n cw) s → WAt w3 (w9.setCell ⟨W, 14, none⟩ (.slice (some ⟨gw, 0, none⟩) m cw)) W hb c xA xn xc H (.slice (some ⟨gw, 0, none⟩) m cw) sp from fun w9 h9 => by
                have h8 := h9.pop HN.out rfl
                rw [hm] at h8
                rw [hsp]
                exact h8)
              have HMN := Lib.hid (And.intro hm (And.intro hncw hcm))
              clear hm haw haz hlast hx hh hhd hge hle hq hsp hpp hno hncw hcm h0 c13 HGS HPH HPX HRN
              go_upto_region 12 with fail
              have f14 := HS.out.blk.frozen 14
              refine wp_region_R (fun w' => Kept S0 wr w' ∧ w'.cell? ⟨W, 14, none⟩ = some (.slice (some ⟨gw, 0, none⟩) n cw) ∧ w'.cell? ⟨gw, m, none⟩ = some (.int .i64 (na : Int))) [] (by kernel_rfl) ?_
              have hS : Kept S0 wr wr.drew ∧ wr.drew.cell? ⟨W, 14, none⟩ = some (.slice (some ⟨gw, 0, none⟩) n cw) ∧ wr.drew.cell? ⟨gw, m, none⟩ = some (.int .i64 (na : Int)) := ⟨(Kept.refl S0 wr).drew, c14, cl⟩
              generalize wr.drew = w8 at *
              refine wpAnyR_take 0 (v := ?_) rfl (by kernel_rfl) (by kernel_rfl) (by kernel_rfl) (by kernel_rfl) (fun _ _ _ h => h) hS ⟨by rfl, ?_⟩ ?_
              rotate_left; (intro w hSw; (try dsimp only at hSw); first | (go_simp; done) | (go_simp; with_reducible rfl))
              simp only [List.getElem_toArray, List.getElem_cons_zero, Act.put, List.setIfInBounds_toArray, List.set_cons_zero, List.set_cons_succ]
              refine wpAnyR_take 1 (v := ?_) rfl (by kernel_rfl) (by kernel_rfl) (by kernel_rfl) (by kernel_rfl) (fun _ _ _ h => h) hS ⟨by rfl, ?_⟩ ?_
              rotate_left; (intro w hSw; (try dsimp only at hSw); first | (go_simp; done) | (go_simp; with_reducible rfl))
              simp only [List.getElem_toArray, List.getElem_cons_zero, List.getElem_cons_succ, Act.put, List.setIfInBounds_toArray, List.set_cons_zero, List.set_cons_succ]
              refine wpAnyR_take 2 (v := ?_) rfl (by kernel_rfl) (by kernel_rfl) (by kernel_rfl) (by kernel_rfl) (fun _ _ _ h => h) hS ⟨by rfl, ?_⟩ ?_
              rotate_left; (intro w hSw; (try dsimp only at hSw); first | (go_simp; done) | (go_simp; with_reducible rfl))
              simp only [List.getElem_toArray, List.getElem_cons_zero, List.getElem_cons_succ, Act.put, List.setIfInBounds_toArray, List.set_cons_zero, List.set_cons_succ]
              refine wpAnyR_take 3 (v := ?_) rfl (by kernel_rfl) (by kernel_rfl) (by kernel_rfl) (by kernel_rfl) (fun _ _ _ h => h) hS ⟨by rfl, ?_⟩ ?_
              rotate_left; (intro w hSw; (try dsimp only at hSw); first | (go_simp; done) | (go_simp; with_reducible rfl))
              simp only [List.getElem_toArray, List.getElem_cons_zero, List.getElem_cons_succ, Act.put, List.setIfInBounds_toArray, List.set_cons_zero, List.set_cons_succ]
              refine wpAnyR_take 4 (v := ?_) rfl (by kernel_rfl) (by kernel_rfl) (by kernel_rfl) (by kernel_rfl) (fun _ _ _ h => h) hS ⟨by rfl, ?_⟩ ?_
              rotate_left; (intro w hSw; (try dsimp only at hSw); first | (go_simp; done) | (go_simp; with_reducible rfl))
              simp only [List.getElem_toArray, List.getElem_cons_zero, List.getElem_cons_succ, Act.put, List.setIfInBounds_toArray, List.set_cons_zero, List.set_cons_succ]
              refine wpAnyR_take 5 (v := ?_) rfl (by kernel_rfl) (by kernel_rfl) (by kernel_rfl) (by kernel_rfl) (fun _ _ _ h => h) hS ⟨by rfl, ?_⟩ ?_
              rotate_left; (intro w hSw; (try dsimp only at hSw); first | (go_simp; done) | (go_simp; with_reducible rfl))
              simp only [List.getElem_toArray, List.getElem_cons_zero, List.getElem_cons_succ, Act.put, List.setIfInBounds_toArray, List.set_cons_zero, List.set_cons_succ]
              refine wpAnyR_take 6 (v := ?_) rfl (by kernel_rfl) (by kernel_rfl) (by kernel_rfl) (by kernel_rfl) (fun _ _ _ h => h) hS ⟨by rfl, ?_⟩ ?_
              rotate_left; (intro w hSw; (try dsimp only at hSw); first | (go_simp; done) | (go_simp; with_reducible rfl))
              simp only [List.getElem_toArray, List.getElem_cons_zero, List.getElem_cons_succ, Act.put, List.setIfInBounds_toArray, List.set_cons_zero, List.set_cons_succ]
              refine wpAnyR_take 7 (v := ?_) rfl (by kernel_rfl) (by kernel_rfl) (by kernel_rfl) (by kernel_rfl) (fun _ _ _ h => h) hS ⟨by rfl, ?_⟩ ?_
              rotate_left; (intro w hSw; (try dsimp only at hSw); first | (go_simp; done) | (go_simp; with_reducible rfl))
              simp only [List.getElem_toArray, List.getElem_cons_zero, List.getElem_cons_succ, Act.put, List.setIfInBounds_toArray, List.set_cons_zero, List.set_cons_succ]
              refine wpAnyR_take 8 (v := ?_) rfl (by kernel_rfl) (by kernel_rfl) (by kernel_rfl) (by kernel_rfl) (fun _ _ _ h => h) hS ⟨by rfl, ?_⟩ ?_
              rotate_left; (intro w hSw; (try dsimp only at hSw); first | (go_simp; done) | (go_simp; with_reducible rfl))
              simp only [List.getElem_toArray, List.getElem_cons_zero, List.getElem_cons_succ, Act.put, List.setIfInBounds_toArray, List.set_cons_zero, List.set_cons_succ]
              refine wpAnyR_take 9 (v := ?_) rfl (by kernel_rfl) (by kernel_rfl) (by kernel_rfl) (by kernel_rfl) (fun _ _ _ h => h) hS ⟨by rfl, ?_⟩ ?_
              rotate_left; (intro w hSw; (try dsimp only at hSw); first | (go_simp; done) | (go_simp; with_reducible rfl))
              simp only [List.getElem_toArray, List.getElem_cons_zero, List.getElem_cons_succ, Act.put, List.setIfInBounds_toArray, List.set_cons_zero, List.set_cons_succ]
              refine wpAnyR_take 10 (v := ?_) rfl (by kernel_rfl) (by kernel_rfl) (by kernel_rfl) (by kernel_rfl) (fun _ _ _ h => h) hS ⟨by rfl, ?_⟩ ?_
              rotate_left; (intro w hSw; (try dsimp only at hSw); first | (go_simp; done) | (go_simp; with_reducible rfl))
              simp only [List.getElem_toArray, List.getElem_cons_zero, List.getElem_cons_succ, Act.put, List.setIfInBounds_toArray, List.set_cons_zero, List.set_cons_succ]
              refine wpAnyR_take 11 (v := ?_) rfl (by kernel_rfl) (by kernel_rfl) (by kernel_rfl) (by kernel_rfl) (fun _ _ _ h => h) hS ⟨by rfl, ?_⟩ ?_
              rotate_left; (intro w hSw; (try dsimp only at hSw); first | (go_simp; done) | (go_simp; with_reducible rfl))
              simp only [List.getElem_toArray, List.getElem_cons_zero, List.getElem_cons_succ, Act.put, List.setIfInBounds_toArray, List.set_cons_zero, List.set_cons_succ]
              refine wpAnyR_take 12 (v := ?_) rfl (by kernel_rfl) (by kernel_rfl) (by kernel_rfl) (by kernel_rfl) (fun _ _ _ h => h) hS ⟨by rfl, ?_⟩ ?_
              rotate_left; (intro w hSw; (try dsimp only at hSw); first | (go_simp; done) | (go_simp; with_reducible rfl))
              simp only [List.getElem_toArray, List.getElem_cons_zero, List.getElem_cons_succ, Act.put, List.setIfInBounds_toArray, List.set_cons_zero, List.set_cons_succ]
              refine wpAnyR_done (by kernel_rfl) ?_ _
              have HS8 := Lib.hid (HS.out.kept0 hS.1)
              clear c14 cl c15 f14 HS
              have c14 : w8.cell? ⟨W, 14, none⟩ = some (.slice (some ⟨gw, 0, none⟩) n cw) := hS.2.1
              have cl : w8.cell? ⟨gw, m, none⟩ = some (.int .i64 (na : Int)) := hS.2.2
              clear hS
              go_upto_region 13 with fail
              refine wp_region_R (fun w' => Kept S0 w8 w' ∧ w'.cell? ⟨W, 14, none⟩ = some (.slice (some ⟨gw, 0, none⟩) n cw) ∧ w'.cell? ⟨gw, m, none⟩ = some (.int .i64 (na : Int))) [14] (by kernel_rfl) ?_
              have hS : Kept S0 w8 w8.drew ∧ w8.drew.cell? ⟨W, 14, none⟩ = some (.slice (some ⟨gw, 0, none⟩) n cw) ∧ w8.drew.cell? ⟨gw, m, none⟩ = some (.int .i64 (na : Int)) := ⟨(Kept.refl S0 w8).drew, c14, cl⟩
              generalize w8.drew = w9 at *
              refine wpAnyR_take 0 (v := ?_) rfl (by kernel_rfl) (by kernel_rfl) (by kernel_rfl) (by kernel_rfl) (fun _ _ _ h => h) hS ⟨by rfl, ?_⟩ ?_
              rotate_left; (intro w hSw; (try dsimp only at hSw); first | (go_simp; done) | (go_simp; with_reducible rfl))
              simp only [List.getElem_toArray, List.getElem_cons_zero, Act.put, List.setIfInBounds_toArray, List.set_cons_zero, List.set_cons_succ]
              refine wpAnyR_take 1 (v := ?_) rfl (by kernel_rfl) (by kernel_rfl) (by kernel_rfl) (by kernel_rfl) (fun _ _ _ h => h) hS ⟨by rfl, ?_⟩ ?_
              rotate_left; (intro w hSw; (try dsimp only at hSw); first | (go_simp; done) | (go_simp; with_reducible rfl))
              simp only [List.getElem_toArray, List.getElem_cons_zero, List.getElem_cons_succ, Act.put, List.setIfInBounds_toArray, List.set_cons_zero, List.set_cons_succ]
              refine wpAnyR_take 2 (v := ?_) rfl (by kernel_rfl) (by kernel_rfl) (by kernel_rfl) (by kernel_rfl) (fun _ _ _ h => h) hS ⟨by rfl, ?_⟩ ?_
              rotate_left; (intro w hSw; (try dsimp only at hSw); first | (go_simp; done) | (go_simp; with_reducible rfl))
              simp only [List.getElem_toArray, List.getElem_cons_zero, List.getElem_cons_succ, Act.put, List.setIfInBounds_toArray, List.set_cons_zero, List.set_cons_succ]
              refine wpAnyR_take 3 (v := ?_) rfl (by kernel_rfl) (by kernel_rfl) (by kernel_rfl) (by kernel_rfl) (fun _ _ _ h => h) hS ⟨by rfl, ?_⟩ ?_
              rotate_left; (intro w hSw; (try dsimp only at hSw); first | (go_simp; done) | (go_simp; with_reducible rfl))
              simp only [List.getElem_toArray, List.getElem_cons_zero, List.getElem_cons_succ, Act.put, List.setIfInBounds_toArray, List.set_cons_zero, List.set_cons_succ]
              refine wpAnyR_take 4 (v := ?_) rfl (by kernel_rfl) (by kernel_rfl) (by kernel_rfl) (by kernel_rfl) (fun _ _ _ h => h) hS ⟨by rfl, ?_⟩ ?_
              rotate_left; (intro w hSw; (try dsimp only at hSw); first | (go_simp; done) | (go_simp; with_reducible rfl))
              simp only [List.getElem_toArray, List.getElem_cons_zero, List.getElem_cons_succ, Act.put, List.setIfInBounds_toArray, List.set_cons_zero, List.set_cons_succ]
              refine wpAnyR_take 5 (v := ?_) rfl (by kernel_rfl) (by kernel_rfl) (by kernel_rfl) (by kernel_rfl) (fun _ _ _ h => h) hS ⟨by rfl, ?_⟩ ?_
              rotate_left; (intro w hSw; (try dsimp only at hSw); first | (go_simp; done) | (go_simp; with_reducible rfl))
              simp only [List.getElem_toArray, List.getElem_cons_zero, List.getElem_cons_succ, Act.put, List.setIfInBounds_toArray, List.set_cons_zero, List.set_cons_succ]
              refine wpAnyR_take 6 (v := ?_) rfl (by kernel_rfl) (by kernel_rfl) (by kernel_rfl) (by kernel_rfl) (fun _ _ _ h => h) hS ⟨by rfl, ?_⟩ ?_
              rotate_left; (intro w hSw; (try dsimp only at hSw); first | (go_simp; done) | (go_simp; with_reducible rfl))
              simp only [List.getElem_toArray, List.getElem_cons_zero, List.getElem_cons_succ, Act.put, List.setIfInBounds_toArray, List.set_cons_zero, List.set_cons_succ]
              refine wpAnyR_take 7 (v := ?_) rfl (by kernel_rfl) (by kernel_rfl) (by kernel_rfl) (by kernel_rfl) (fun _ _ _ h => h) hS ⟨by rfl, ?_⟩ ?_
              rotate_left; (intro w hSw; (try dsimp only at hSw); first | (go_simp; done) | (go_simp; with_reducible rfl))
              simp only [List.getElem_toArray, List.getElem_cons_zero, List.getElem_cons_succ, Act.put, List.setIfInBounds_toArray, List.set_cons_zero, List.set_cons_succ]
              refine wpAnyR_take 8 (v := ?_) rfl (by kernel_rfl) (by kernel_rfl) (by kernel_rfl) (by kernel_rfl) (fun _ _ _ h => h) hS ⟨by rfl, ?_⟩ ?_
              rotate_left; (intro w hSw; (try dsimp only at hSw); first | (go_simp; done) | (go_simp; with_reducible rfl))
              simp only [List.getElem_toArray, List.getElem_cons_zero, List.getElem_cons_succ, Act.put, List.setIfInBounds_toArray, List.set_cons_zero, List.set_cons_succ]
              refine wpAnyR_take 9 (v := ?_) rfl (by kernel_rfl) (by kernel_rfl) (by kernel_rfl) (by kernel_rfl) (fun _ _ _ h => h) hS ⟨by rfl, ?_⟩ ?_
              rotate_left; (intro w hSw; (try dsimp only at hSw); first | (go_simp; done) | (go_simp; with_reducible rfl))
              simp only [List.getElem_toArray, List.getElem_cons_zero, List.getElem_cons_succ, Act.put, List.setIfInBounds_toArray, List.set_cons_zero, List.set_cons_succ]
              refine wpAnyR_take 10 (v := ?_) rfl (by kernel_rfl) (by kernel_rfl) (by kernel_rfl) (by kernel_rfl) (fun _ _ _ h => h) hS ⟨by rfl, ?_⟩ ?_
              rotate_left; (intro w hSw; (try dsimp only at hSw); first | (go_simp; done) | (go_simp; with_reducible rfl))
              simp only [List.getElem_toArray, List.getElem_cons_zero, List.getElem_cons_succ, Act.put, List.setIfInBounds_toArray, List.set_cons_zero, List.set_cons_succ]
              refine wpAnyR_take 11 (v := ?_) rfl (by kernel_rfl) (by kernel_rfl) (by kernel_rfl) (by kernel_rfl) (fun _ _ _ h => h) hS ⟨by rfl, ?_⟩ ?_
              rotate_left; (intro w hSw; (try dsimp only at hSw); first | (go_simp; done) | (go_simp; with_reducible rfl))
              simp only [List.getElem_toArray, List.getElem_cons_zero, List.getElem_cons_succ, Act.put, List.setIfInBounds_toArray, List.set_cons_zero, List.set_cons_succ]
              refine wpAnyR_late 12 (v := ?_) rfl (by kernel_rfl) (by kernel_rfl) (by kernel_rfl) (by kernel_rfl) (fun _ _ _ h => h) (fun _ => hS) ⟨by rfl, ?_⟩ ?_
              rotate_left; (intro w; first | (go_simp; done) | (go_simp; with_reducible rfl))
              simp only [List.getElem_toArray, List.getElem_cons_zero, List.getElem_cons_succ, Act.put, List.setIfInBounds_toArray, List.set_cons_zero, List.set_cons_succ]
              refine wpAnyR_take 13 (v := ?_) rfl (by kernel_rfl) (by kernel_rfl) (by kernel_rfl) (by kernel_rfl) (fun _ _ _ h => h) hS ⟨by rfl, ?_⟩ ?_
              rotate_left; (intro w hSw; (try dsimp only at hSw); first | (go_simp; done) | (go_simp; with_reducible rfl))
              simp only [List.getElem_toArray, List.getElem_cons_zero, List.getElem_cons_succ, Act.put, List.setIfInBounds_toArray, List.set_cons_zero, List.set_cons_succ]
              have HS9 := Lib.hid (HSP9.out _ (HS8.out.kept0 hS.1))
              have f14 := (HS8.out.kept0 hS.1).blk.frozen 14
              have i14 := hS.2.1
              refine wpAnyR_one 14 rfl (by kernel_rfl) (fun K hK => ?_)
              go_simp
              refine hK.out _ _ (fun h => absurd h (by simp [early])) ?_
              refine wpAnyR_done (by kernel_rfl) ?_ _
              clear hK K hS f14 i14 c14 cl
              generalize (w9.setCell ⟨W, 14, none⟩ (.slice (some ⟨gw, 0, none⟩) m cw)) = w10 at *
              have HST := Lib.hid (step_any w3 W hb c p xA xn xc l H _ sp na x h_ w10 HS9.out HC3.out HL3.out HSP3.out HX.out HSH.out (by have := HB0.out; omega) (by have h8 := HPP.out.1; have h7 := HXN.out.2; omega))
              have HG2 := Lib.hid (show Good xn H (stepP xn H p x sp (na : Int) h_) from stepP_good HGP.out HB0.out.1)
              have HP2 := Lib.hid (show (stepP xn H p x sp (na : Int) h_).no = false → phi (stepP xn H p x sp (na : Int) h_) ≤ phi sp from stepP_phi HGP.out.len HB0.out.1)
              generalize stepP xn H p x sp (na : Int) h_ = s2 at *
              go_wp2_with (go_at_call 29; refine HST.out.mono ?_; rintro e w' ⟨rfl, wv', hw'⟩)
              go_roundg q
              case measure => have := HQ.out; omega
              case rel => exact ⟨s2, wv', hw', HG2.out, fun e => by have h9 := HP2.out e; have h8 := HPP.out.2; omega, fun e => by have h9 := HP2.out e; have h8 := HPP.out.1; omega, HRN2.out⟩
end Go.Proofs.YtfmblalbcodpmaaDoor
namespace Go.Proofs.YtfmblalbcodpmaaDoor
open Go.RowKit
set_option maxRecDepth 100000 in
set_option maxHeartbeats 16000000 in
theorem sound_any (c : CC) (p : CtxP) (xA : Option Addr) (xn xc : Nat) (l : List FlP) (H : Int) (w : World) (hc : CtxAt w c p) (hl : SlFl w xA xn xc l) (hsp : SpTab w) (hH : H ≤ 1000000000000000000) (hxn : xn ≤ 1000000000000000) :
    Calls Tryd.prog 10 #[.agg c.arr, .agg #[.slice xA xn xc, .int .i64 H]] w fun e w' => e = .returned (.bool (heightsP p l H).isSome) ∧ Kept S0 w w' := by
  have hka : Kept S0 w ((w.alloc (.cells c.arr 30)).alloc (.cells #[.slice xA xn xc, .int .i64 H] 33)) := ((Kept.refl S0 w).alloc _).alloc _
  have HB1 := Lib.hid (show Blk ((w.alloc (.cells c.arr 30)).alloc (.cells #[.slice xA xn xc, .int .i64 H] 33)) w.heap.size 30 c.arr from (Blk.new w _ _).alloc _)
  have HB2 := Lib.hid (show Blk ((w.alloc (.cells c.arr 30)).alloc (.cells #[.slice xA xn xc, .int .i64 H] 33)) (w.heap.size + 1) 33 #[.slice xA xn xc, .int .i64 H] from Blk.new1 w _ _ _)
  have HH := Lib.hid (heights_any c p xA xn xc l H _ (hc.kept0 hka) (hl.kept0 hka) (hsp.kept0 hka) hH hxn)
  have HKA := Lib.hid hka
  generalize heightsP p l H = hp at *
  clear hka hc hl hsp hH
  go_enter Tryd.func10, Tryd.ntmps10
  go_upto_region 1 with fail
  generalize ((w.alloc (.cells c.arr 30)).alloc (.cells #[.slice xA xn xc, .int .i64 H] 33)) = w2 at *
  generalize hg : w.heap.size = g at *
  have e0 : w2.cell? ⟨g + 1, 0, none⟩ = some (.slice xA xn xc) := HB2.out.cell 0
  have e1 : w2.cell? ⟨g + 1, 1, none⟩ = some (.int .i64 H) := HB2.out.cell 1
  go_wp2_with (first | (refine wpList_load_row rfl 30 _ rfl g rfl 30 c.arr (0, 0) _ HB1.out Tryd.underlying30 rfl (by kernel_rfl) ?_) | (go_at_call 12; refine HH.out.mono ?_; rintro e w3 ⟨hk3, ⟨hn, rfl⟩ | ⟨hs, hb, hn, _, rfl, _⟩⟩ <;> subst hn))
  · go_ret
    exact ⟨rfl, HKA.out.then0 hk3⟩
  · go_ret
    exact ⟨rfl, HKA.out.then0 hk3⟩
theorem drop_cons_of {α : Type} {l : List α} {k : Nat} {x : α} (h : l[k]? = some x) : l.drop k = x :: l.drop (k + 1) := by
  rw [List.drop_eq_getElem_cons (List.getElem?_eq_some_iff.1 h).1, (List.getElem?_eq_some_iff.1 h).2]
set_option maxRecDepth 100000 in
set_option maxHeartbeats 16000000 in
theorem ints_any (A B : Option Addr) (n m c d : Nat) (xs ys : List Int) (w : World) (hx : SlL w 1 A n c (xs.map i64V)) (hy : SlL w 1 B m d (ys.map i64V)) (hn : n ≤ 9223372036854775806) :
    Calls Tryd.prog 13 #[.slice A n c, .slice B m d] w fun e w' => e = .returned (.bool (decide (xs = ys))) ∧ Kept S0 w w' := by
  have hxl : xs.length = n := by have := hx.len; rw [List.length_map] at this; omega
  have hyl : ys.length = m := by have := hy.len; rw [List.length_map] at this; omega
  have HX := Lib.hid hx
  have HY := Lib.hid hy
  have HXL := Lib.hid hxl
  have HYL := Lib.hid hyl
  clear hx hy
  by_cases hnm : n = m
  · subst hnm
    clear hxl hyl
    go_enter Tryd.func13, Tryd.ntmps13
    go_wp2_with fail
    go_loopw [5] (fun i wr => ∃ k : Nat, k ≤ n ∧ i = .int .i64 (k : Int) ∧ Kept S0 w wr ∧ decide (xs = ys) = decide (xs.drop k = ys.drop k)) (fun i _ => n + 1 - (intOf i).toNat)
    case atStart => exact ⟨0, Nat.zero_le _, rfl, Kept.refl _ _, rfl⟩
    case round =>
      obtain ⟨k, hk, rfl, hkr, he⟩ := hrel
      have HK := Lib.hid hkr
      have HE := Lib.hid he
      clear hkr he
      by_cases hlt : k < n
      · obtain ⟨x, hx⟩ : ∃ x, xs[k]? = some x := ⟨_, List.getElem?_eq_getElem (by have := HXL.out; omega)⟩
        obtain ⟨y, hy⟩ : ∃ y, ys[k]? = some y := ⟨_, List.getElem?_eq_getElem (by have := HYL.out; omega)⟩
        obtain ⟨b1, o1, rfl, hc1⟩ := (HX.out.kept0 HK.out).at (by omega)
        obtain ⟨b2, o2, rfl, hc2⟩ := (HY.out.kept0 HK.out).at (by omega)
        have d1 : wr.cell? ⟨b1, o1 + k, none⟩ = some (.int .i64 x) := hc1 k _ (by rw [List.getElem?_map, hx]; rfl)
        have d2 : wr.cell? ⟨b2, o2 + k, none⟩ = some (.int .i64 y) := hc2 k _ (by rw [List.getElem?_map, hy]; rfl)
        have HE2 := Lib.hid (show decide (xs = ys) = decide (x = y ∧ xs.drop (k + 1) = ys.drop (k + 1)) from by rw [HE.out, drop_cons_of hx, drop_cons_of hy, decide_eq_decide]; exact List.cons.injEq .. ▸ Iff.rfl)
        have hlti : (k : Int) < (n : Int) := by omega
        clear hc1 hc2 hx hy HE
        go_upto_region 6 with fail
        have HKD := Lib.hid HK.out.drew
        refine wp_region_R (fun w' => w'.cell? ⟨b1, o1 + k, none⟩ = some (.int .i64 x) ∧ w'.cell? ⟨b2, o2 + k, none⟩ = some (.int .i64 y)) [] (by kernel_rfl) ?_
        have hS : wr.drew.cell? ⟨b1, o1 + k, none⟩ = some (.int .i64 x) ∧ wr.drew.cell? ⟨b2, o2 + k, none⟩ = some (.int .i64 y) := ⟨d1, d2⟩
        clear d1 d2
        generalize wr.drew = w3 at *
        refine wpAnyR_take 0 (v := ?_) rfl (by kernel_rfl) (by kernel_rfl) (by kernel_rfl) (by kernel_rfl) (fun _ _ _ h => h) hS ⟨by rfl, ?_⟩ ?_
        rotate_left; (intro w hSw; (try dsimp only at hSw); first | (go_simp; done) | (go_simp; with_reducible rfl))
        simp only [List.getElem_toArray, List.getElem_cons_zero, Act.put, List.setIfInBounds_toArray, List.set_cons_zero, List.set_cons_succ]
        refine wpAnyR_take 1 (v := ?_) rfl (by kernel_rfl) (by kernel_rfl) (by kernel_rfl) (by kernel_rfl) (fun _ _ _ h => h) hS ⟨by rfl, ?_⟩ ?_
        rotate_left; (intro w hSw; (try dsimp only at hSw); first | (go_simp; done) | (go_simp; with_reducible rfl))
        simp only [List.getElem_toArray, List.getElem_cons_zero, List.getElem_cons_succ, Act.put, List.setIfInBounds_toArray, List.set_cons_zero, List.set_cons_succ]
        refine wpAnyR_take 2 (v := ?_) rfl (by kernel_rfl) (by kernel_rfl) (by kernel_rfl) (by kernel_rfl) (fun _ _ _ h => h) hS ⟨by rfl, ?_⟩ ?_
        rotate_left; (intro w hSw; (try dsimp only at hSw); first | (go_simp; done) | (go_simp; with_reducible rfl))
        simp only [List.getElem_toArray, List.getElem_cons_zero, List.getElem_cons_succ, Act.put, List.setIfInBounds_toArray, List.set_cons_zero, List.set_cons_succ]
        refine wpAnyR_take 3 (v := ?_) rfl (by kernel_rfl) (by kernel_rfl) (by kernel_rfl) (by kernel_rfl) (fun _ _ _ h => h) hS ⟨by rfl, ?_⟩ ?_
        rotate_left; (intro w hSw; (try dsimp only at hSw); first | (go_simp; done) | (go_simp; with_reducible rfl))
        simp only [List.getElem_toArray, List.getElem_cons_zero, List.getElem_cons_succ, Act.put, List.setIfInBounds_toArray, List.set_cons_zero, List.set_cons_succ]
        refine wpAnyR_take 4 (v := ?_) rfl (by kernel_rfl) (by kernel_rfl) (by kernel_rfl) (by kernel_rfl) (fun _ _ _ h => h) hS ⟨by rfl, ?_⟩ ?_
        rotate_left; (intro w hSw; (try dsimp only at hSw); first | (go_simp; done) | (go_simp; with_reducible rfl))
        simp only [List.getElem_toArray, List.getElem_cons_zero, List.getElem_cons_succ, Act.put, List.setIfInBounds_toArray, List.set_cons_zero, List.set_cons_succ]
        refine wpAnyR_take 5 (v := ?_) rfl (by kernel_rfl) (by kernel_rfl) (by kernel_rfl) (by kernel_rfl) (fun _ _ _ h => h) hS ⟨by rfl, ?_⟩ ?_
        rotate_left; (intro w hSw; (try dsimp only at hSw); first | (go_simp; done) | (go_simp; with_reducible rfl))
        simp only [List.getElem_toArray, List.getElem_cons_zero, List.getElem_cons_succ, Act.put, List.setIfInBounds_toArray, List.set_cons_zero, List.set_cons_succ]
        refine wpAnyR_take 6 (v := ?_) rfl (by kernel_rfl) (by kernel_rfl) (by kernel_rfl) (by kernel_rfl) (fun _ _ _ h => h) hS ⟨by rfl, ?_⟩ ?_
        rotate_left; (intro w hSw; (try dsimp only at hSw); first | (go_simp; done) | (go_simp; with_reducible rfl))
        simp only [List.getElem_toArray, List.getElem_cons_zero, List.getElem_cons_succ, Act.put, List.setIfInBounds_toArray, List.set_cons_zero, List.set_cons_succ]
        refine wpAnyR_take 7 (v := ?_) rfl (by kernel_rfl) (by kernel_rfl) (by kernel_rfl) (by kernel_rfl) (fun _ _ _ h => h) hS ⟨by rfl, ?_⟩ ?_
        rotate_left; (intro w hSw; (try dsimp only at hSw); first | (go_simp; done) | (go_simp; with_reducible rfl))
        simp only [List.getElem_toArray, List.getElem_cons_zero, List.getElem_cons_succ, Act.put, List.setIfInBounds_toArray, List.set_cons_zero, List.set_cons_succ]
        refine wpAnyR_take 8 (v := ?_) rfl (by kernel_rfl) (by kernel_rfl) (by kernel_rfl) (by kernel_rfl) (fun _ _ _ h => h) hS ⟨by rfl, ?_⟩ ?_
        rotate_left; (intro w hSw; (try dsimp only at hSw); first | (go_simp; done) | (go_simp; with_reducible rfl))
        simp only [List.getElem_toArray, List.getElem_cons_zero, List.getElem_cons_succ, Act.put, List.setIfInBounds_toArray, List.set_cons_zero, List.set_cons_succ]
        refine wpAnyR_done (by kernel_rfl) ?_ _
        clear hS
        by_cases hxy : x = y
        · have HF := Lib.hid (show decide (xs = ys) = decide (xs.drop (k + 1) = ys.drop (k + 1)) from HE2.out.trans (decide_eq_decide.2 (and_iff_right hxy)))
          subst hxy
          go_wp2_with fail
          go_roundw
          case rel => exact ⟨k + 1, hlt, by go_num, HKD.out, HF.out⟩
          case measure => simp [intOf]; omega
        · have HF := Lib.hid (HE2.out.trans (decide_eq_false (fun h => hxy h.1)))
          go_wp2_with fail
          go_ret
          exact ⟨by rw [HF.out]; rfl, HKD.out⟩
      · have HF := Lib.hid (show decide (xs = ys) = true from by
          rw [HE.out, List.drop_eq_nil_of_le (by have := HXL.out; omega), List.drop_eq_nil_of_le (by have := HYL.out; omega)]
          rfl)
        go_wp2_with fail
        go_ret
        exact ⟨by rw [HF.out]; rfl, HK.out⟩
  · have HF := Lib.hid (show decide (xs = ys) = false from decide_eq_false (fun h => by subst h; omega))
    have hi : ¬ (n : Int) = (m : Int) := by omega
    clear hxl hyl
    go_enter Tryd.func13, Tryd.ntmps13
    go_wp2_with fail
    go_ret
    exact ⟨by rw [HF.out]; rfl, Kept.refl _ _⟩
end Go.Proofs.YtfmblalbcodpmaaDoor
namespace Go.Proofs.YtfmblalbcodpmaaDoor
open Go.RowKit
/-- Flat instructions that fill a block. -/
theorem SlFl.of_blk {w : World} {b : Nat} {fs : List FC} {l : List FlP} (h : Blk w b 46 (fs.flatMap fun f => f.arr.toList).toArray) (hl : fs.length = l.length) (hi : ∀ (k : Nat) (f : FC) (x : FlP), fs[k]? = some f → l[k]? = some x → FlIs w f x) (hc : l.length ≤ maxLen) : SlFl w (some ⟨b, 0, none⟩) l.length l.length l :=
  ⟨rfl, Nat.le_refl _, hc, fun _ => ⟨b, 0, rfl, fun k x hx => by
    obtain ⟨f, hf⟩ : ∃ f, fs[k]? = some f := ⟨_, List.getElem?_eq_getElem (by have := (List.getElem?_eq_some_iff.1 hx).1; omega)⟩
    refine ⟨f, fun j hj => ?_, hi k f x hf hx⟩
    rw [Nat.zero_add, h.cell]
    have h1 := flat_get (fun f : FC => f.arr.toList) 25 (fun _ => rfl) fs k f hf j hj
    simpa using h1⟩⟩
theorem SlFl.drop1 {w : World} {b o n c : Nat} {l : List FlP} (h : SlFl w (some ⟨b, o, none⟩) (n + 1) (c + 1) l) : SlFl w (some ⟨b, o + 25, none⟩) n c (l.drop 1) :=
  ⟨by rw [List.length_drop]; have := h.len; omega, by have := h.le; omega, by have := h.cm; omega, fun hn => by
    obtain ⟨b', o', e, hc⟩ := h.at_ (by omega)
    cases e
    refine ⟨b, o + 25, rfl, fun k x hx => ?_⟩
    rw [List.getElem?_drop, Nat.add_comm] at hx
    have h1 := hc (k + 1) x hx
    rwa [show o + (k + 1) * 25 = o + 25 + k * 25 by omega] at h1⟩
def flc (op : Nat) : FC := ⟨op, 0, 0, 0, fun _ => 0, none, 0, 0, 0, 0, 0, none, 0, 0⟩
def flp (op : Nat) : FlP := ⟨op, 0, 0, 0, fun _ => 0, [], 0, 0, 0, []⟩
theorem flc_is (w : World) (op : Nat) (h : op < 65536) : FlIs w (flc op) (flp op) :=
  ⟨rfl, rfl, rfl, rfl, rfl, rfl, rfl, rfl, SlL.zero _ 1, SlL.zero _ 3, h, Nat.zero_lt_succ _, Nat.zero_lt_succ _, Nat.zero_lt_succ _, Nat.zero_le _, Nat.zero_le _⟩
def cc0 : CC := ⟨none, 0, 0, none, 0, 0, none, 0, 0, none, 0, 0, none, 0, 0, none, 0, 0, 0, none, 0, 0, none, 0, 0, none, 0, 0, 0⟩
def ctx0 : CtxP := ⟨[], [], [], [], [], [], 0, [], [], [], 0⟩
theorem SlFT.nil (w : World) : SlFT w none 0 0 [] := ⟨rfl, Nat.le_refl _, Nat.zero_le _, fun h => absurd h (Nat.lt_irrefl 0)⟩
theorem ctx0_at (w : World) : CtxAt w cc0 ctx0 :=
  ⟨SlFT.nil w, SlFT.nil w, SlL.zero w 4, SlL.zero w 3, SlL.zero w 2, SlL.zero w 1, rfl, SlL.zero w 1, SlL.zero w 2, SlL.zero w 1, rfl, fun _ h => absurd h (by simp [ctx0]), by simp [ctx0]⟩
theorem lives1 : heightsP ctx0 [flp 65, flp 26, flp 15] 1 = some [0, 1, 0] := by kernel_rfl
theorem lives2 : (heightsP ctx0 [flp 26, flp 15] 0).isSome = false := by kernel_rfl
theorem lives3 : (heightsP ctx0 [flp 65, flp 26, flp 15] 0).isSome = false := by kernel_rfl
theorem flats3_is (w : World) : ∀ (k : Nat) (f : FC) (x : FlP), [flc 65, flc 26, flc 15][k]? = some f → [flp 65, flp 26, flp 15][k]? = some x → FlIs w f x
  | 0, f, x, h, h2 => by cases h; cases h2; exact flc_is w 65 (by decide)
  | 1, f, x, h, h2 => by cases h; cases h2; exact flc_is w 26 (by decide)
  | 2, f, x, h, h2 => by cases h; cases h2; exact flc_is w 15 (by decide)
  | k + 3, f, x, h, _ => by simp at h
def flats3 : Array Value := #[Value.int IntKind.u16 65, Value.int IntKind.u32 0, Value.int IntKind.u32 0, Value.int IntKind.u64 0, Value.int IntKind.u8 0, Value.int IntKind.u8 0, Value.int IntKind.u8 0, Value.int IntKind.u8 0, Value.int IntKind.u8 0, Value.int IntKind.u8 0, Value.int IntKind.u8 0, Value.int IntKind.u8 0, Value.int IntKind.u8 0, Value.int IntKind.u8 0, Value.int IntKind.u8 0, Value.int IntKind.u8 0, Value.int IntKind.u8 0, Value.int IntKind.u8 0, Value.int IntKind.u8 0, Value.int IntKind.u8 0, Value.slice none 0 0, Value.int IntKind.i64 0, Value.int IntKind.i64 0, Value.int IntKind.i64 0, Value.slice none 0 0, Value.int IntKind.u16 26, Value.int IntKind.u32 0, Value.int IntKind.u32 0, Value.int IntKind.u64 0, Value.int IntKind.u8 0, Value.int IntKind.u8 0, Value.int IntKind.u8 0, Value.int IntKind.u8 0, Value.int IntKind.u8 0, Value.int IntKind.u8 0, Value.int IntKind.u8 0, Value.int IntKind.u8 0, Value.int IntKind.u8 0, Value.int IntKind.u8 0, Value.int IntKind.u8 0, Value.int IntKind.u8 0, Value.int IntKind.u8 0, Value.int IntKind.u8 0, Value.int IntKind.u8 0, Value.int IntKind.u8 0, Value.slice none 0 0, Value.int IntKind.i64 0, Value.int IntKind.i64 0, Value.int IntKind.i64 0, Value.slice none 0 0, Value.int IntKind.u16 15, Value.int IntKind.u32 0, Value.int IntKind.u32 0, Value.int IntKind.u64 0, Value.int IntKind.u8 0, Value.int IntKind.u8 0, Value.int IntKind.u8 0, Value.int IntKind.u8 0, Value.int IntKind.u8 0, Value.int IntKind.u8 0, Value.int IntKind.u8 0, Value.int IntKind.u8 0, Value.int IntKind.u8 0, Value.int IntKind.u8 0, Value.int IntKind.u8 0, Value.int IntKind.u8 0, Value.int IntKind.u8 0, Value.int IntKind.u8 0, Value.int IntKind.u8 0, Value.int IntKind.u8 0, Value.slice none 0 0, Value.int IntKind.i64 0, Value.int IntKind.i64 0, Value.int IntKind.i64 0, Value.slice none 0 0]
theorem flats3_eq : flats3 = ([flc 65, flc 26, flc 15].flatMap fun f => f.arr.toList).toArray := by kernel_rfl
set_option maxRecDepth 100000 in
set_option maxHeartbeats 16000000 in
theorem lives_any (w : World) (hsp : SpTab w) : Calls Tryd.prog 11 #[] w fun e w' => e = .returned (.bool true) ∧ Kept S0 w w' := by
  have hka : Kept S0 w ((w.alloc (.cells #[Value.int IntKind.u16 65, Value.int IntKind.u32 0, Value.int IntKind.u32 0, Value.int IntKind.u64 0, Value.int IntKind.u8 0, Value.int IntKind.u8 0, Value.int IntKind.u8 0, Value.int IntKind.u8 0, Value.int IntKind.u8 0, Value.int IntKind.u8 0, Value.int IntKind.u8 0, Value.int IntKind.u8 0, Value.int IntKind.u8 0, Value.int IntKind.u8 0, Value.int IntKind.u8 0, Value.int IntKind.u8 0, Value.int IntKind.u8 0, Value.int IntKind.u8 0, Value.int IntKind.u8 0, Value.int IntKind.u8 0, Value.slice none 0 0, Value.int IntKind.i64 0, Value.int IntKind.i64 0, Value.int IntKind.i64 0, Value.slice none 0 0, Value.int IntKind.u16 26, Value.int IntKind.u32 0, Value.int IntKind.u32 0, Value.int IntKind.u64 0, Value.int IntKind.u8 0, Value.int IntKind.u8 0, Value.int IntKind.u8 0, Value.int IntKind.u8 0, Value.int IntKind.u8 0, Value.int IntKind.u8 0, Value.int IntKind.u8 0, Value.int IntKind.u8 0, Value.int IntKind.u8 0, Value.int IntKind.u8 0, Value.int IntKind.u8 0, Value.int IntKind.u8 0, Value.int IntKind.u8 0, Value.int IntKind.u8 0, Value.int IntKind.u8 0, Value.int IntKind.u8 0, Value.slice none 0 0, Value.int IntKind.i64 0, Value.int IntKind.i64 0, Value.int IntKind.i64 0, Value.slice none 0 0, Value.int IntKind.u16 15, Value.int IntKind.u32 0, Value.int IntKind.u32 0, Value.int IntKind.u64 0, Value.int IntKind.u8 0, Value.int IntKind.u8 0, Value.int IntKind.u8 0, Value.int IntKind.u8 0, Value.int IntKind.u8 0, Value.int IntKind.u8 0, Value.int IntKind.u8 0, Value.int IntKind.u8 0, Value.int IntKind.u8 0, Value.int IntKind.u8 0, Value.int IntKind.u8 0, Value.int IntKind.u8 0, Value.int IntKind.u8 0, Value.int IntKind.u8 0, Value.int IntKind.u8 0, Value.int IntKind.u8 0, Value.slice none 0 0, Value.int IntKind.i64 0, Value.int IntKind.i64 0, Value.int IntKind.i64 0, Value.slice none 0 0] 46)).alloc (.cells #[.slice (some ⟨w.heap.size, 0, none⟩) 3 3, .int .i64 1] 33)) := ((Kept.refl S0 w).alloc _).alloc _
  have hb1 : Blk ((w.alloc (.cells #[Value.int IntKind.u16 65, Value.int IntKind.u32 0, Value.int IntKind.u32 0, Value.int IntKind.u64 0, Value.int IntKind.u8 0, Value.int IntKind.u8 0, Value.int IntKind.u8 0, Value.int IntKind.u8 0, Value.int IntKind.u8 0, Value.int IntKind.u8 0, Value.int IntKind.u8 0, Value.int IntKind.u8 0, Value.int IntKind.u8 0, Value.int IntKind.u8 0, Value.int IntKind.u8 0, Value.int IntKind.u8 0, Value.int IntKind.u8 0, Value.int IntKind.u8 0, Value.int IntKind.u8 0, Value.int IntKind.u8 0, Value.slice none 0 0, Value.int IntKind.i64 0, Value.int IntKind.i64 0, Value.int IntKind.i64 0, Value.slice none 0 0, Value.int IntKind.u16 26, Value.int IntKind.u32 0, Value.int IntKind.u32 0, Value.int IntKind.u64 0, Value.int IntKind.u8 0, Value.int IntKind.u8 0, Value.int IntKind.u8 0, Value.int IntKind.u8 0, Value.int IntKind.u8 0, Value.int IntKind.u8 0, Value.int IntKind.u8 0, Value.int IntKind.u8 0, Value.int IntKind.u8 0, Value.int IntKind.u8 0, Value.int IntKind.u8 0, Value.int IntKind.u8 0, Value.int IntKind.u8 0, Value.int IntKind.u8 0, Value.int IntKind.u8 0, Value.int IntKind.u8 0, Value.slice none 0 0, Value.int IntKind.i64 0, Value.int IntKind.i64 0, Value.int IntKind.i64 0, Value.slice none 0 0, Value.int IntKind.u16 15, Value.int IntKind.u32 0, Value.int IntKind.u32 0, Value.int IntKind.u64 0, Value.int IntKind.u8 0, Value.int IntKind.u8 0, Value.int IntKind.u8 0, Value.int IntKind.u8 0, Value.int IntKind.u8 0, Value.int IntKind.u8 0, Value.int IntKind.u8 0, Value.int IntKind.u8 0, Value.int IntKind.u8 0, Value.int IntKind.u8 0, Value.int IntKind.u8 0, Value.int IntKind.u8 0, Value.int IntKind.u8 0, Value.int IntKind.u8 0, Value.int IntKind.u8 0, Value.int IntKind.u8 0, Value.slice none 0 0, Value.int IntKind.i64 0, Value.int IntKind.i64 0, Value.int IntKind.i64 0, Value.slice none 0 0] 46)).alloc (.cells #[.slice (some ⟨w.heap.size, 0, none⟩) 3 3, .int .i64 1] 33)) w.heap.size 46 flats3 := (Blk.new w 46 flats3).alloc _
  have hb2 : Blk ((w.alloc (.cells #[Value.int IntKind.u16 65, Value.int IntKind.u32 0, Value.int IntKind.u32 0, Value.int IntKind.u64 0, Value.int IntKind.u8 0, Value.int IntKind.u8 0, Value.int IntKind.u8 0, Value.int IntKind.u8 0, Value.int IntKind.u8 0, Value.int IntKind.u8 0, Value.int IntKind.u8 0, Value.int IntKind.u8 0, Value.int IntKind.u8 0, Value.int IntKind.u8 0, Value.int IntKind.u8 0, Value.int IntKind.u8 0, Value.int IntKind.u8 0, Value.int IntKind.u8 0, Value.int IntKind.u8 0, Value.int IntKind.u8 0, Value.slice none 0 0, Value.int IntKind.i64 0, Value.int IntKind.i64 0, Value.int IntKind.i64 0, Value.slice none 0 0, Value.int IntKind.u16 26, Value.int IntKind.u32 0, Value.int IntKind.u32 0, Value.int IntKind.u64 0, Value.int IntKind.u8 0, Value.int IntKind.u8 0, Value.int IntKind.u8 0, Value.int IntKind.u8 0, Value.int IntKind.u8 0, Value.int IntKind.u8 0, Value.int IntKind.u8 0, Value.int IntKind.u8 0, Value.int IntKind.u8 0, Value.int IntKind.u8 0, Value.int IntKind.u8 0, Value.int IntKind.u8 0, Value.int IntKind.u8 0, Value.int IntKind.u8 0, Value.int IntKind.u8 0, Value.int IntKind.u8 0, Value.slice none 0 0, Value.int IntKind.i64 0, Value.int IntKind.i64 0, Value.int IntKind.i64 0, Value.slice none 0 0, Value.int IntKind.u16 15, Value.int IntKind.u32 0, Value.int IntKind.u32 0, Value.int IntKind.u64 0, Value.int IntKind.u8 0, Value.int IntKind.u8 0, Value.int IntKind.u8 0, Value.int IntKind.u8 0, Value.int IntKind.u8 0, Value.int IntKind.u8 0, Value.int IntKind.u8 0, Value.int IntKind.u8 0, Value.int IntKind.u8 0, Value.int IntKind.u8 0, Value.int IntKind.u8 0, Value.int IntKind.u8 0, Value.int IntKind.u8 0, Value.int IntKind.u8 0, Value.int IntKind.u8 0, Value.int IntKind.u8 0, Value.slice none 0 0, Value.int IntKind.i64 0, Value.int IntKind.i64 0, Value.int IntKind.i64 0, Value.slice none 0 0] 46)).alloc (.cells #[.slice (some ⟨w.heap.size, 0, none⟩) 3 3, .int .i64 1] 33)) (w.heap.size + 1) 33 #[.slice (some ⟨w.heap.size, 0, none⟩) 3 3, .int .i64 1] := Blk.new1 w _ _ _
  have HKA := Lib.hid hka
  have HB1 := Lib.hid hb1
  have HB2 := Lib.hid hb2
  have HSP := Lib.hid (hsp.kept0 hka)
  clear hka hb1 hb2 hsp
  go_enter Tryd.func11, Tryd.ntmps11
  go_upto_region 2 with fail
  generalize ((w.alloc (.cells #[Value.int IntKind.u16 65, Value.int IntKind.u32 0, Value.int IntKind.u32 0, Value.int IntKind.u64 0, Value.int IntKind.u8 0, Value.int IntKind.u8 0, Value.int IntKind.u8 0, Value.int IntKind.u8 0, Value.int IntKind.u8 0, Value.int IntKind.u8 0, Value.int IntKind.u8 0, Value.int IntKind.u8 0, Value.int IntKind.u8 0, Value.int IntKind.u8 0, Value.int IntKind.u8 0, Value.int IntKind.u8 0, Value.int IntKind.u8 0, Value.int IntKind.u8 0, Value.int IntKind.u8 0, Value.int IntKind.u8 0, Value.slice none 0 0, Value.int IntKind.i64 0, Value.int IntKind.i64 0, Value.int IntKind.i64 0, Value.slice none 0 0, Value.int IntKind.u16 26, Value.int IntKind.u32 0, Value.int IntKind.u32 0, Value.int IntKind.u64 0, Value.int IntKind.u8 0, Value.int IntKind.u8 0, Value.int IntKind.u8 0, Value.int IntKind.u8 0, Value.int IntKind.u8 0, Value.int IntKind.u8 0, Value.int IntKind.u8 0, Value.int IntKind.u8 0, Value.int IntKind.u8 0, Value.int IntKind.u8 0, Value.int IntKind.u8 0, Value.int IntKind.u8 0, Value.int IntKind.u8 0, Value.int IntKind.u8 0, Value.int IntKind.u8 0, Value.int IntKind.u8 0, Value.slice none 0 0, Value.int IntKind.i64 0, Value.int IntKind.i64 0, Value.int IntKind.i64 0, Value.slice none 0 0, Value.int IntKind.u16 15, Value.int IntKind.u32 0, Value.int IntKind.u32 0, Value.int IntKind.u64 0, Value.int IntKind.u8 0, Value.int IntKind.u8 0, Value.int IntKind.u8 0, Value.int IntKind.u8 0, Value.int IntKind.u8 0, Value.int IntKind.u8 0, Value.int IntKind.u8 0, Value.int IntKind.u8 0, Value.int IntKind.u8 0, Value.int IntKind.u8 0, Value.int IntKind.u8 0, Value.int IntKind.u8 0, Value.int IntKind.u8 0, Value.int IntKind.u8 0, Value.int IntKind.u8 0, Value.int IntKind.u8 0, Value.slice none 0 0, Value.int IntKind.i64 0, Value.int IntKind.i64 0, Value.int IntKind.i64 0, Value.slice none 0 0] 46)).alloc (.cells #[.slice (some ⟨w.heap.size, 0, none⟩) 3 3, .int .i64 1] 33)) = w2 at *
  have HL := Lib.hid (SlFl.of_blk (fs := [flc 65, flc 26, flc 15]) (l := [flp 65, flp 26, flp 15]) (HB1.out.cast flats3_eq) rfl (flats3_is w2) (by decide))
  have HL2 := Lib.hid (show SlFl w2 (some ⟨w.heap.size, 25, none⟩) 2 2 [flp 26, flp 15] from by have h := HL.out.drop1; rw [Nat.zero_add] at h; exact h)
  generalize w.heap.size = g at *
  have e0 : w2.cell? ⟨g + 1, 0, none⟩ = some (.slice (some ⟨g, 0, none⟩) 3 3) := HB2.out.cell 0
  have e1 : w2.cell? ⟨g + 1, 1, none⟩ = some (.int .i64 1) := HB2.out.cell 1
  have HH := Lib.hid (heights_any cc0 ctx0 (some ⟨g, 0, none⟩) 3 3 [flp 65, flp 26, flp 15] 1 w2 (ctx0_at w2) HL.out HSP.out (by decide) (by decide))
  have HS1 := Lib.hid (fun (w' : World) (hk : Kept S0 w2 w') => sound_any cc0 ctx0 (some ⟨g, 25, none⟩) 2 2 [flp 26, flp 15] 0 w' (ctx0_at w') (HL2.out.kept0 hk) (HSP.out.kept0 hk) (by decide) (by decide))
  have HS2 := Lib.hid (fun (w' : World) (hk : Kept S0 w2 w') => sound_any cc0 ctx0 (some ⟨g, 0, none⟩) 3 3 [flp 65, flp 26, flp 15] 0 w' (ctx0_at w') (HL.out.kept0 hk) (HSP.out.kept0 hk) (by decide) (by decide))
  rw [lives1] at HH
  have HH := Lib.hid (show Calls Tryd.prog 12 #[.agg cc0.arr, .agg #[.slice (some ⟨g, 0, none⟩) 3 3, .int .i64 1]] w2 fun e w' => Kept S0 w2 w' ∧ ∃ hb, e = .returned (.tuple #[.slice (some ⟨hb, 0, none⟩) 3 3, .int .i64 0]) ∧ SlL w' 1 (some ⟨hb, 0, none⟩) 3 3 #[Value.int .i64 0, .int .i64 1, .int .i64 0].toList from HH.out.mono (by
    rintro e w' ⟨hk, ⟨hn, _⟩ | ⟨hs, hb, hn, _, he, hsl⟩⟩
    · cases hn
    · cases hn
      exact ⟨hk, hb, he, hsl⟩))
  rw [lives2] at HS1
  rw [lives3] at HS2
  have HCA := Lib.hid (show cc0.arr = #[.slice none 0 0, .slice none 0 0, .slice none 0 0, .slice none 0 0, .slice none 0 0, .slice none 0 0, .int .i64 0, .slice none 0 0, .slice none 0 0, .slice none 0 0, .int .i64 0] from rfl)
  rw [HCA.out] at HH HS1 HS2
  clear HCA HL HL2 HB1
  go_upto_region 3 with (go_at_call 12; refine HH.out.mono ?_; rintro e w3 ⟨hk3, hb, rfl, hsl⟩)
  have HSL := Lib.hid (hsl.kept0 ((Kept.refl S0 w3).alloc (.cells #[.int .i64 0, .int .i64 1, .int .i64 0] 3)))
  have HBS := Lib.hid (SlL.of_blk (size := 1) (n := 3) (Blk.new w3 3 #[.int .i64 0, .int .i64 1, .int .i64 0]) rfl (by decide))
  have HIN := Lib.hid (ints_any (some ⟨hb, 0, none⟩) (some ⟨w3.heap.size, 0, none⟩) 3 3 3 3 [0, 1, 0] [0, 1, 0] (w3.alloc (.cells #[.int .i64 0, .int .i64 1, .int .i64 0] 3)) HSL.out HBS.out (by decide))
  rw [show decide (([0, 1, 0] : List Int) = [0, 1, 0]) = true from rfl] at HIN
  have HK3 := Lib.hid hk3
  have d0 : w3.cell? ⟨g + 1, 0, none⟩ = some (.slice (some ⟨g, 0, none⟩) 3 3) := kp0 hk3 e0
  clear hk3 hsl e0 e1 HSL HBS
  go_wp2_with (first
    | (go_at_call 13; refine HIN.out.mono ?_; rintro e w4 ⟨rfl, hk4⟩; have hk24 := (HK3.out.alloc (.cells #[.int .i64 0, .int .i64 1, .int .i64 0] 3)).then0 hk4; have HK4 := Lib.hid hk24; have d4 : w4.cell? ⟨g + 1, 0, none⟩ = some (.slice (some ⟨g, 0, none⟩) 3 3) := (hk24.blk HB2.out (fun x => x)).cell 0; clear hk4 hk24 HIN))
  go_at_call 10
  refine (HS1.out w4 HK4.out).mono ?_
  rintro e w5 ⟨rfl, hk5⟩
  have HK5 := Lib.hid (HK4.out.then0 hk5)
  have d5 : w5.cell? ⟨g + 1, 0, none⟩ = some (.slice (some ⟨g, 0, none⟩) 3 3) := kp0 hk5 d4
  clear hk5
  clear HS1
  go_wp2_with fail
  go_at_call 10
  refine (HS2.out w5 HK5.out).mono ?_
  rintro e w6 ⟨rfl, hk6⟩
  go_wp2_with fail
  go_ret
  exact ⟨rfl, HKA.out.then0 (HK5.out.then0 hk6)⟩
end Go.Proofs.YtfmblalbcodpmaaDoor
namespace Go.Proofs.YtfmblalbcodpmaaDoor
open Go.RowKit
/-- The same state over a longer code. -/
def WP.ext (s : WP) (t : List Int) : WP := { s with high := s.high ++ t }
section
variable {xn xn' : Nat} {H H' : Int} {s : WP} {at_ v : Int} {t : List Int} {p : CtxP}
theorem walkTo_ext (hx : xn ≤ xn') (hH : H ≤ H') (hl : s.high.length = xn) (h : (walkTo xn H s at_ v).no = false) : walkTo xn' H' (s.ext t) at_ v = (walkTo xn H s at_ v).ext t := by
  by_cases h1 : at_ < 0 ∨ (xn : Int) ≤ at_ ∨ H < v
  · unfold walkTo at h
    rw [if_pos h1] at h
    cases h
  · have h2 : ¬ (at_ < 0 ∨ (xn' : Int) ≤ at_ ∨ H' < v) := by omega
    have h3 : at_.toNat < s.high.length := by omega
    have h4 : (s.ext t).high.getD at_.toNat 0 = s.high.getD at_.toNat 0 := by
      show (s.high ++ t).getD _ 0 = _
      rw [List.getD_eq_getElem?_getD, List.getD_eq_getElem?_getD, List.getElem?_append_left h3]
    unfold walkTo at h ⊢
    rw [if_neg h1] at h
    rw [if_neg h1, if_neg h2, h4]
    by_cases h5 : s.high.getD at_.toNat 0 < 0
    · rw [if_pos h5, if_pos h5]
      show ({ high := (s.high ++ t).set _ v, wait := s.wait ++ [at_], no := s.no } : WP) = _
      rw [List.set_append_left _ _ h3]
      rfl
    · rw [if_neg h5] at h
      rw [if_neg h5, if_neg h5]
      by_cases h6 : s.high.getD at_.toNat 0 = v
      · rw [if_pos h6, if_pos h6]
      · rw [if_neg h6] at h
        cases h
theorem goalP_ext {g : Int × Int × Int} (hx : xn ≤ xn') (hH : H ≤ H') (hl : s.high.length = xn) (h : (goalP xn H s g v).no = false) : goalP xn' H' (s.ext t) g v = (goalP xn H s g v).ext t := by
  unfold goalP at h ⊢
  by_cases h1 : g.2.1 < 0 ∨ g.2.2 < 0 ∨ v < g.2.1 ∨ v - g.2.1 < g.2.2
  · rw [if_pos h1] at h
    cases h
  · rw [if_neg h1] at h
    rw [if_neg h1, if_neg h1]
    exact walkTo_ext hx hH hl h
theorem no_false_of {b : Bool} {P : Prop} (hp : b = true → P) (hn : ¬ P) : b = false := by
  cases b
  · rfl
  · exact absurd (hp rfl) hn
theorem walkTo_was (h : (walkTo xn H s at_ v).no = false) : s.no = false := no_false_of walkTo_no (by rw [h]; simp)
theorem goals_ext (hx : xn ≤ xn') (hH : H ≤ H') : ∀ (L : List (Int × Int × Int)) (s : WP), s.high.length = xn → (L.foldl (fun s g => goalP xn H s g v) s).no = false → L.foldl (fun s g => goalP xn' H' s g v) (s.ext t) = (L.foldl (fun s g => goalP xn H s g v) s).ext t
  | [], _, _, _ => rfl
  | g :: r, s, hl, h => by
    have h1 : (goalP xn H s g v).no = false := no_false_of (goals_no r _) (by rw [show (r.foldl (fun s g => goalP xn H s g v) (goalP xn H s g v)).no = false from h]; simp)
    show r.foldl _ (goalP xn' H' (s.ext t) g v) = _
    rw [goalP_ext hx hH hl h1]
    exact goals_ext hx hH r _ (goalP_len hl) h
theorem stepP_ext {x : FlP} {h_ : Int} (hx : xn ≤ xn') (hH : H ≤ H') (hl : s.high.length = xn) (h : (stepP xn H p x s at_ h_).no = false) : stepP xn' H' p x (s.ext t) at_ h_ = (stepP xn H p x s at_ h_).ext t := by
  have ho : ∀ b : Bool, ({ s.ext t with no := (s.ext t).no || b } : WP) = ({ s with no := s.no || b } : WP).ext t := fun _ => rfl
  unfold stepP at h ⊢
  simp only [ho]
  split
  · rw [if_pos (by assumption)] at h
    exact goalP_ext hx hH hl h
  rw [if_neg (by assumption)] at h
  split
  · rw [if_pos (by assumption)] at h
    have h1 := walkTo_was h
    rw [goalP_ext hx hH (by exact hl) h1]
    exact walkTo_ext hx hH (goalP_len (by exact hl)) h
  rw [if_neg (by assumption)] at h
  split
  · rw [if_pos (by assumption)] at h
    exact goals_ext hx hH _ _ (by exact hl) h
  rw [if_neg (by assumption)] at h
  split
  · rw [if_pos (by assumption)] at h
    have h1 := walkTo_was h
    rw [walkTo_ext hx hH (by exact hl) h1]
    exact walkTo_ext hx hH (walkTo_len (by exact hl)) h
  rw [if_neg (by assumption)] at h
  split
  · rw [if_pos (by assumption)] at h
    exact walkTo_ext hx hH hl h
  rw [if_neg (by assumption)] at h
  split
  · rfl
  rw [if_neg (by assumption)] at h
  split
  · rfl
  rw [if_neg (by assumption)] at h
  exact walkTo_ext hx hH (by exact hl) h
end
theorem runP_no {xn : Nat} {H : Int} {p : CtxP} {l : List FlP} : ∀ (f : Nat) (s : WP), s.no = true → runP xn H p l f s = s
  | 0, _, _ => rfl
  | f + 1, s, h => by unfold runP; rw [if_pos h]
/-- One round of the run. -/
theorem runP_step {xn : Nat} {H : Int} {p : CtxP} {l : List FlP} {f : Nat} {s : WP} {a : Int} {x : FlP} (h : s.no = false) (ha : s.wait.getLast? = some a) (hx : l[a.toNat]? = some x) : runP xn H p l (f + 1) s = runP xn H p l f (stepP xn H p x { s with wait := s.wait.dropLast } a (s.high.getD a.toNat 0)) := by
  conv => lhs; unfold runP
  rw [if_neg (by rw [h]; simp), ha]
  simp only [hx]
theorem runP_end {xn : Nat} {H : Int} {p : CtxP} {l : List FlP} {f : Nat} {s : WP} (h : s.wait = []) : runP xn H p l f s = s := by
  cases f with
  | zero => rfl
  | succ f =>
    unfold runP
    split
    · rfl
    · rw [h]; rfl
theorem Good.pop {xn : Nat} {H : Int} {s : WP} (h : Good xn H s) : Good xn H { s with wait := s.wait.dropLast } :=
  ⟨h.len, fun a ha => h.wait a (List.dropLast_subset _ ha), h.le, fun e a ha => h.ge e a (List.dropLast_subset _ ha)⟩
theorem phi_pop {s : WP} (h : s.wait ≠ []) : phi { s with wait := s.wait.dropLast } + 1 = phi s := by
  have : 0 < s.wait.length := List.length_pos_iff.2 h
  unfold phi
  simp only [List.length_dropLast]
  omega
/-- What a round does, where the state is a good one. -/
theorem runP_round {xn : Nat} {H : Int} {l : List FlP} {s : WP} (hg : Good xn H s) (hl : l.length = xn) (hn : s.no = false) (hw : s.wait ≠ []) :
    ∃ (a : Nat) (x : FlP) (h_ : Int), s.wait.getLast? = some (a : Int) ∧ a < xn ∧ l[a]? = some x ∧ s.high.getD a 0 = h_ ∧ 0 ≤ h_ := by
  obtain ⟨z, hz⟩ : ∃ z, s.wait.getLast? = some z := by
    cases h : s.wait.getLast? with
    | none => exact absurd (List.getLast?_eq_none_iff.1 h) hw
    | some z => exact ⟨z, rfl⟩
  have hm := List.mem_of_getLast? hz
  have hb := hg.wait z hm
  obtain ⟨a, rfl⟩ : ∃ a : Nat, z = (a : Int) := ⟨z.toNat, by omega⟩
  have h0 := hg.ge hn _ hm
  rw [Int.toNat_natCast] at h0
  exact ⟨a, _, _, hz, by omega, List.getElem?_eq_getElem (by omega), rfl, h0⟩
theorem runP_more {xn : Nat} {H : Int} {p : CtxP} {l : List FlP} (hl : l.length = xn) (d : Nat) : ∀ (f : Nat) (s : WP), Good xn H s → (s.no = false → phi s < f) → runP xn H p l (f + d) s = runP xn H p l f s
  | 0, s, _, hp => by
    cases hn : s.no with
    | true => rw [runP_no _ _ hn, runP_no _ _ hn]
    | false => exact absurd (hp hn) (Nat.not_lt_zero _)
  | f + 1, s, hg, hp => by
    cases hn : s.no with
    | true => rw [runP_no _ _ hn, runP_no _ _ hn]
    | false =>
      by_cases hw : s.wait = []
      · rw [runP_end hw, runP_end hw]
      · obtain ⟨a, x, h_, h1, h2, h3, h4, h5⟩ := runP_round hg hl hn hw
        rw [show f + 1 + d = (f + d) + 1 by omega, runP_step hn h1 (by rw [Int.toNat_natCast]; exact h3), runP_step hn h1 (by rw [Int.toNat_natCast]; exact h3)]
        simp only [Int.toNat_natCast, h4]
        refine runP_more hl d f _ (stepP_good hg.pop h5) (fun e => ?_)
        have h6 := stepP_phi (p := p) (x := x) (at_ := (a : Int)) (H := H) hg.pop.len h5 e
        have h7 := phi_pop hw
        have h8 := hp hn
        omega
theorem runP_ext {xn xn' : Nat} {H H' : Int} {p : CtxP} {l m : List FlP} {t : List Int} (hx : xn ≤ xn') (hH : H ≤ H') (hl : l.length = xn) : ∀ (f : Nat) (s : WP), Good xn H s → (runP xn H p l f s).no = false → runP xn' H' p (l ++ m) f (s.ext t) = (runP xn H p l f s).ext t
  | 0, _, _, _ => rfl
  | f + 1, s, hg, h => by
    cases hn : s.no with
    | true => rw [runP_no _ _ hn] at h; rw [h] at hn; cases hn
    | false =>
      by_cases hw : s.wait = []
      · rw [runP_end hw, runP_end (by exact hw)]
      · obtain ⟨a, x, h_, h1, h2, h3, h4, h5⟩ := runP_round hg hl hn hw
        have e1 := runP_step (p := p) (H := H) (xn := xn) (f := f) hn h1 (by rw [Int.toNat_natCast]; exact h3)
        simp only [Int.toNat_natCast, h4] at e1
        have e2 := runP_step (p := p) (H := H') (xn := xn') (f := f) (s := s.ext t) (l := l ++ m) hn h1 (by rw [Int.toNat_natCast, List.getElem?_append_left (by omega)]; exact h3)
        have h6 : (s.ext t).high.getD (a : Int).toNat 0 = h_ := by
          rw [Int.toNat_natCast, ← h4]
          show (s.high ++ t).getD a 0 = _
          rw [List.getD_eq_getElem?_getD, List.getD_eq_getElem?_getD, List.getElem?_append_left (by have := hg.len; omega)]
        rw [h6] at e2
        rw [e1] at h
        rw [e1, e2]
        have h7 : (stepP xn H p x { s with wait := s.wait.dropLast } (a : Int) h_).no = false := by
          cases h8 : (stepP xn H p x { s with wait := s.wait.dropLast } (a : Int) h_).no with
          | false => rfl
          | true => rw [runP_no _ _ h8, h8] at h; cases h
        have h9 := stepP_ext (t := t) (xn' := xn') (H' := H') hx hH hg.pop.len h7
        rw [show ({ s.ext t with wait := (s.ext t).wait.dropLast } : WP) = ({ s with wait := s.wait.dropLast } : WP).ext t from rfl, h9]
        exact runP_ext hx hH hl f _ (stepP_good hg.pop h5) h
theorem init_good (xn : Nat) (H : Int) : Good xn H (walkTo xn H (initW xn) 0 0) ∧ phi (walkTo xn H (initW xn) 0 0) ≤ xn :=
  ⟨Good.walkTo ⟨by simp [initW], by simp [initW], fun v hv => .inl (by simpa [initW] using (List.mem_replicate.1 hv).2), by simp [initW]⟩ (fun _ => Int.le_refl 0),
    Nat.le_trans (walkTo_phi (by simp [initW]) (Int.le_refl 0)) (by simpa [phi, initW] using negs_le (List.replicate xn (-1)))⟩
theorem runP_good {xn : Nat} {H : Int} {p : CtxP} {l : List FlP} (hl : l.length = xn) : ∀ (f : Nat) (s : WP), Good xn H s → Good xn H (runP xn H p l f s)
  | 0, _, hg => hg
  | f + 1, s, hg => by
    cases hn : s.no with
    | true => rw [runP_no _ _ hn]; exact hg
    | false =>
      by_cases hw : s.wait = []
      · rw [runP_end hw]; exact hg
      · obtain ⟨a, x, h_, h1, h2, h3, h4, h5⟩ := runP_round hg hl hn hw
        rw [runP_step hn h1 (by rw [Int.toNat_natCast]; exact h3)]
        simp only [Int.toNat_natCast, h4]
        exact runP_good hl f _ (stepP_good hg.pop h5)
theorem heightsP_len {p : CtxP} {l : List FlP} {H : Int} {hs : List Int} (h : heightsP p l H = some hs) : hs.length = l.length := by
  unfold heightsP at h
  split at h
  · cases h
  simp only at h
  split at h
  · cases h
  cases h
  exact (runP_good rfl _ _ (init_good l.length H).1).len
/-- A sound code stays one, with its heights, with a greater High, and with more behind that may be. -/
theorem heightsP_more {p : CtxP} {l m : List FlP} {H H' : Int} {hs : List Int} (h : heightsP p l H = some hs) (hH : H ≤ H') (hn : l.length + m.length ≤ 65536) (hm : (m.any fun x => !namedP p x) = false) : heightsP p (l ++ m) H' = some (hs ++ List.replicate m.length (-1)) := by
  unfold heightsP at h ⊢
  split at h
  · cases h
  rename_i h1
  simp only at h
  split at h
  · cases h
  rename_i h2
  have h2 : (runP l.length H p l (l.length + 2) (walkTo l.length H (initW l.length) 0 0)).no = false := by simpa using h2
  have hx : l.length ≤ (l ++ m).length := by simp
  have hg := init_good l.length H
  have h3 : (walkTo l.length H (initW l.length) 0 0).no = false := by
    cases h8 : (walkTo l.length H (initW l.length) 0 0).no with
    | false => rfl
    | true => rw [runP_no _ _ h8, h8] at h2; cases h2
  have e0 : initW (l ++ m).length = (initW l.length).ext (List.replicate m.length (-1)) := by
    unfold initW WP.ext
    simp only [List.length_append, List.replicate_append_replicate]
  have e1 : walkTo (l ++ m).length H' (initW (l ++ m).length) 0 0 = (walkTo l.length H (initW l.length) 0 0).ext (List.replicate m.length (-1)) := by
    rw [e0]
    exact walkTo_ext hx hH (by simp [initW]) h3
  have e2 : runP (l ++ m).length H' p (l ++ m) ((l ++ m).length + 2) (walkTo (l ++ m).length H' (initW (l ++ m).length) 0 0) = (runP l.length H p l (l.length + 2) (walkTo l.length H (initW l.length) 0 0)).ext (List.replicate m.length (-1)) := by
    rw [e1, ← runP_more rfl m.length (l.length + 2) _ hg.1 (fun _ => by have := hg.2; omega), show (l ++ m).length + 2 = l.length + 2 + m.length by simp; omega]
    refine runP_ext hx hH rfl _ _ hg.1 ?_
    rw [runP_more rfl m.length (l.length + 2) _ hg.1 (fun _ => by have := hg.2; omega)]
    exact h2
  rw [if_neg (by
    rintro (h | h | h)
    · rw [List.length_append] at h; omega
    · rw [List.length_append] at h; omega
    · rw [List.any_append, hm, Bool.or_false] at h; exact h1 (.inr (.inr h)))]
  simp only
  rw [e2, if_neg (by show ¬ (runP l.length H p l (l.length + 2) (walkTo l.length H (initW l.length) 0 0)).no = true; rw [h2]; simp)]
  cases h
  rfl
end Go.Proofs.YtfmblalbcodpmaaDoor
namespace Go.Proofs.YtfmblalbcodpmaaDoor
open Go.RowKit
theorem Tryf.infoF : (Tryd.prog.info? 46).map (fun i => (i.zero, i.size, i.bytes)) = some (some (.agg flatZ), 25, 112) := by kernel_rfl
theorem SlFl.list {w : World} {A : Option Addr} {n c : Nat} {l : List FlP} (h : SlFl w A n c l) (hn : A = none → n = 0 ∧ c = 0) : ∃ fs : List FC, fs.length = l.length ∧ (∀ (k : Nat) (f : FC) (x : FlP), fs[k]? = some f → l[k]? = some x → FlIs w f x) ∧ SlL w 25 A n c (fs.flatMap fun f => f.arr.toList) := by
  by_cases h0 : n = 0
  · subst h0
    have hl : l = [] := List.length_eq_zero_iff.1 h.len.symm
    subst hl
    exact ⟨[], rfl, fun k f x hf => by simp at hf, ⟨rfl, fun h => absurd h (by omega), hn, h.le, h.cm⟩⟩
  · obtain ⟨b, o, rfl, hc⟩ := h.at_ (by omega)
    have hall : ∀ m, m ≤ l.length → ∃ fs : List FC, fs.length = m ∧ ∀ (k : Nat) (f : FC) (x : FlP), fs[k]? = some f → l[k]? = some x → CellsAt w b (o + k * 25) f.arr ∧ FlIs w f x := fun m => by
      induction m with
      | zero => exact fun _ => ⟨[], rfl, fun k f x hf => by simp at hf⟩
      | succ m ih =>
        intro hm
        obtain ⟨fs, h1, h2⟩ := ih (by omega)
        obtain ⟨x, hx⟩ : ∃ x, l[m]? = some x := ⟨_, List.getElem?_eq_getElem (by omega)⟩
        obtain ⟨f, hf⟩ := hc m x hx
        refine ⟨fs ++ [f], by simp [h1], fun k f' x' hf' hx' => ?_⟩
        by_cases hk : k < m
        · rw [List.getElem?_append_left (by omega)] at hf'
          exact h2 k f' x' hf' hx'
        · have hk2 : k = m := by
            have := (List.getElem?_eq_some_iff.1 hf').1
            simp at this
            omega
          subst hk2
          rw [← h1, List.getElem?_concat_length] at hf'
          cases hf'
          rw [hx] at hx'
          cases hx'
          exact hf
    obtain ⟨fs, h1, h2⟩ := hall l.length (Nat.le_refl _)
    have hfl := flat_len (fun f : FC => f.arr.toList) 25 (fun _ => rfl) fs
    refine ⟨fs, h1, fun k f x hf hx => (h2 k f x hf hx).2, ⟨by rw [hfl, h1, h.len], fun _ => ⟨b, o, rfl, fun i hi => ?_⟩, fun e => (by cases e), h.le, h.cm⟩⟩
    have hln := h.len
    have hk : i / 25 < fs.length := by omega
    obtain ⟨f, hf⟩ : ∃ f, fs[i / 25]? = some f := ⟨_, List.getElem?_eq_getElem hk⟩
    obtain ⟨x, hx⟩ : ∃ x, l[i / 25]? = some x := ⟨_, List.getElem?_eq_getElem (by omega)⟩
    have h3 := (h2 _ f x hf hx).1 (i % 25) (Nat.mod_lt _ (by decide))
    have h4 := flat_get (fun f : FC => f.arr.toList) 25 (fun _ => rfl) fs _ f hf (i % 25) (Nat.mod_lt _ (by decide))
    have h5 : i / 25 * 25 + i % 25 = i := by omega
    rw [h5] at h4
    rw [Nat.add_assoc, h5] at h3
    rw [h3, ofL]
    have h6 : i % 25 < f.arr.size := Nat.mod_lt _ (by decide)
    rw [Array.getElem?_eq_getElem h6]
    rw [show (f.arr.toList)[i % 25]? = some f.arr[i % 25] from (Array.getElem?_toList ..).trans (Array.getElem?_eq_getElem h6)] at h4
    rw [List.getD_eq_getElem?_getD, h4]
    rfl
theorem SlFl.of_list {w : World} {A : Option Addr} {n c : Nat} {l : List FlP} {fs : List FC} (hl : fs.length = l.length) (hi : ∀ (k : Nat) (f : FC) (x : FlP), fs[k]? = some f → l[k]? = some x → FlIs w f x) (h : SlL w 25 A n c (fs.flatMap fun f => f.arr.toList)) : SlFl w A n c l := by
  have hfl := flat_len (fun f : FC => f.arr.toList) 25 (fun _ => rfl) fs
  have h0 := h.len
  refine ⟨by omega, h.le, h.cm, fun hn => ?_⟩
  obtain ⟨b, o, e, hc⟩ := h.at (by omega)
  refine ⟨b, o, e, fun k x hx => ?_⟩
  obtain ⟨f, hf⟩ : ∃ f, fs[k]? = some f := ⟨_, List.getElem?_eq_getElem (by have := (List.getElem?_eq_some_iff.1 hx).1; omega)⟩
  refine ⟨f, fun j hj => ?_, hi k f x hf hx⟩
  have h4 := flat_get (fun f : FC => f.arr.toList) 25 (fun _ => rfl) fs k f hf j hj
  rw [show (f.arr.toList)[j]? = some f.arr[j] from (Array.getElem?_toList ..).trans (Array.getElem?_eq_getElem hj)] at h4
  rw [Nat.add_assoc, hc _ _ h4, Array.getElem?_eq_getElem hj]
theorem one_cells (fs : List FC) : ∀ u ∈ fs.flatMap (fun f => f.arr.toList), u.oneCell' = true := fun u hu => by
  obtain ⟨f, _, h⟩ := List.mem_flatMap.1 hu
  have : f.arr.all (·.oneCell') = true := by unfold FC.arr; simp [Value.oneCell']
  exact (Array.all_eq_true_iff_forall_mem.1 this) u (by simpa using h)
set_option maxRecDepth 100000 in
set_option maxHeartbeats 1600000 in
theorem long_any (A : Option Addr) (n c : Nat) (H : Int) (w : World) : Calls Tryd.prog 9 #[.agg #[.slice A n c, .int .i64 H]] w fun e w' => e = .returned (.bool (decide (500 < n))) ∧ Kept S0 w w' := by
  have HKA := Lib.hid ((Kept.refl S0 w).alloc (.cells #[.slice A n c, .int .i64 H] 33))
  have HP := Lib.hid (show decide ((500 : Int) < (n : Int)) = decide (500 < n) from decide_eq_decide.2 (by omega))
  go_enter Tryd.func9, Tryd.ntmps9
  go_wp2_with fail
  all_goals
    go_ret
    refine ⟨?_, HKA.out⟩
    first | rfl | (rw [← HP.out]; rfl) | (congr 2; first | (simp; done) | (simp; omega))
end Go.Proofs.YtfmblalbcodpmaaDoor
