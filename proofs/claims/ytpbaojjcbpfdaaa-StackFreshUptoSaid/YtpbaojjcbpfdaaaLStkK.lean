/- The walk of the statement StackKeeps. No condition. -/
import Derived.Test.YtpbaojjcbpfdaaaLStkP
namespace Go.Proofs.Ytpbaojjcbpfdaaa
open Go.RowKit

theorem frsOk_new {w : World} {b k : Nat} {G : Nat → Value} {D : Nat → Frm} (hN : ∀ q, q < k → FrNew w b G q (D q)) : FrsOk S0 w G k D := fun q hq => by
  obtain ⟨x, y, hf, hx, hy, hn, hm⟩ := hN q hq
  obtain ⟨A1, c1, rfl, h1⟩ := came_own (S := S0) hx (fun _ _ x => x) hn
  obtain ⟨A2, c2, rfl, h2⟩ := came_own (S := S0) hy (fun _ _ x => x) hm
  exact ⟨A1, c1, A2, c2, hf, h1, h2⟩

theorem St.closeE_or (s : St) : s.closeE = 0 ∨ s.closeE = 5 := by
  unfold St.closeE
  split
  · exact .inl rfl
  · exact .inr rfl
theorem St.allE_or (s : St) (u : Nat → UInt8) (m : Nat) : s.allE u m = 0 ∨ s.allE u m = 5 := by
  unfold St.allE
  split
  · exact .inl rfl
  · exact .inr rfl
theorem St.keep_of (s : St) (t : UInt8) (h : s.ofE t = 5) : s.withN (s.ofN t) = s := by
  have e : s.ofN t = s.n := by unfold St.ofN; rw [h, if_neg (by decide)]
  rw [e]; rfl
theorem St.keep_all (s : St) (u : Nat → UInt8) (m : Nat) (h : s.allE u m = 5) : s.withN (s.allN u m) = s := by
  have e : s.allN u m = s.n := by
    unfold St.allE at h
    unfold St.allN
    cases hp : s.pop u m with
    | none => rfl
    | some r => rw [hp] at h; exact absurd h (by simp)
  rw [e]; rfl
theorem St.keep_close (s : St) (h : s.closeE = 5) : s.close = s := by unfold St.close; rw [h, if_neg (by decide)]

set_option maxRecDepth 100000 in
set_option maxHeartbeats 6400000 in
theorem stkKeeps_any (L : Option Addr) (l lc : Nat) (a : Nat → ActV) (w : World) (hL : ActsAt w L l a) : Calls Try.prog 7 #[.slice L l lc] w fun e w' => e = .returned (.bool true) ∧ Kept S0 w w' := by
  have HL := Lib.hid hL
  have hll := hL.len
  clear hL
  go_enter Try.func7, Try.ntmps7
  go_wp2_with fail
  refine (newstk_any w).mono ?_
  rintro e w1 ⟨sb, rfl, hm1, hk1⟩
  have HI := Lib.hid (And.intro (stk_new hm1) (hk1.of0 (SB w.heap.size)))
  clear hm1 hk1
  go_wp2_with fail
  go_loopw [4] (fun i wr => ∃ (j : Nat) (s : St) (X : Nat → Prop), i = .int .i64 (j : Int) ∧ j ≤ 60 ∧ j ≤ l ∧ StkIs wr sb w.heap.size X S0 s ∧ s.Wf ∧ s.n ≤ j * 1048576 ∧ s.k ≤ j ∧ Kept (SB w.heap.size) w wr) (fun i _ => l - (intOf i).toNat)
  case atStart => exact ⟨0, ⟨0, fun _ => 0, 0, fun _ => frm0⟩, S1 sb, rfl, by omega, by omega, HI.out.1, wf_new, by simp, by simp, HI.out.2⟩
  case round =>
    obtain ⟨j, s, X, rfl, hj60, hjl, hS, hW, hn, hk, hK⟩ := hrel
    have HS := Lib.hid hS
    have HK := Lib.hid hK
    have HW := Lib.hid hW
    by_cases hlt : j < l ∧ j < 60
    · obtain ⟨h1, h2⟩ := hlt
      have hji : (j : Int) < (l : Int) := by omega
      have hj8 : (j : Int) < 60 := by omega
      have hj0 : (0 : Int) ≤ (j : Int) := by omega
      have uj : IntKind.i64.wrap ((j : Int) + 1) = (j : Int) + 1 := IntWalk.i64_in _ (by omega)
      have VA := Lib.hid (values_is hS hW.n)
      have hxlt := hS.xlt
      have hkf : s.k < 2 ^ 40 := by have := hW.k; omega
      clear hS hW hK
      go_wp2_with fail
      refine VA.out.mono ?_
      rintro e w2 ⟨x, rfl, hx, hk2⟩
      obtain ⟨xA, xc, rfl, _, _, _⟩ := hx.out
      have FM := Lib.hid (frames_is (HS.out.kept0 hk2) HW.out)
      have HX2 := Lib.hid hx
      have HK2 := Lib.hid hk2
      clear hx hk2 VA
      go_wp2_with fail
      refine FM.out.mono ?_
      rintro e w3 ⟨y, G, rfl, hy, hN, hk3⟩
      obtain ⟨yA, yc, rfl, _, _, _⟩ := hy.out
      have hK := HK.out.then0 (HK2.out.then0 hk3)
      obtain ⟨b, o, hLe, hact⟩ := HL.out.acts (by omega)
      subst hLe
      have ha := hact j h1
      have hcl : ∀ i, i < 6 → w3.cell? ⟨b, o + j * 6 + i, none⟩ = some ((a j).cell i) := fun i hi => by
        have h3 := ha.cells i hi
        have hb4 : b < w.heap.size := World.block_lt_of_cell? _ _ h3
        exact (hK.cell (p := ⟨b, o + j * 6 + i, none⟩) hb4 (fun e => by have e' : w.heap.size ≤ b := e; omega)).trans h3
      have p0 : w3.cell? ⟨b, o + j * 6, none⟩ = some (.int .i64 (a j).d) := hcl 0 (by omega)
      have p1 : w3.cell? ⟨b, o + j * 6 + 1, none⟩ = some (.int .u16 (a j).o) := hcl 1 (by omega)
      have p2 : w3.cell? ⟨b, o + j * 6 + 2, none⟩ = some (.int .u32 ((a j).n : Int)) := hcl 2 (by omega)
      have p3 : w3.cell? ⟨b, o + j * 6 + 3, none⟩ = some (.int .u8 ((a j).t.toNat : Int)) := hcl 3 (by omega)
      have p4 : w3.cell? ⟨b, o + j * 6 + 4, none⟩ = some (.slice (a j).A (a j).mi (a j).c) := hcl 4 (by omega)
      have p5 : w3.cell? ⟨b, o + j * 6 + 5, none⟩ = some (.slice (a j).B (a j).k (a j).e) := hcl 5 (by omega)
      have hka := (Kept.refl S0 w3).alloc (.cells #[.int .i64 (a j).d, .int .u16 (a j).o, .int .u32 ((a j).n : Int), .int .u8 ((a j).t.toNat : Int), .slice (a j).A (a j).mi (a j).c, .slice (a j).B (a j).k (a j).e] 50)
      have hba := Blk.new w3 50 #[.int .i64 (a j).d, .int .u16 (a j).o, .int .u32 ((a j).n : Int), .int .u8 ((a j).t.toNat : Int), .slice (a j).A (a j).mi (a j).c, .slice (a j).B (a j).k (a j).e]
      have hsm := ha.small
      have HAC := Lib.hid ha
      have HKA := Lib.hid (hK.then0 hka)
      have HSA := Lib.hid ((HS.out.kept0 (HK2.out.then0 hk3)).kept0 hka)
      have HXA := Lib.hid ((HX2.out.kept hk3 (fun _ _ x => x)).kept hka (fun _ _ x => x))
      have HYA := Lib.hid ((hy.kept hka (fun _ _ x => x)).mono (b := wr.heap.size) HK2.out.size)
      have HNA := Lib.hid (fun q hq => (hN q hq).kept hka (fun _ _ _ x => x))
      have hw2r : wr.heap.size ≤ w2.heap.size := HK2.out.size
      have c0 := hba.cell 0
      have c3 := hba.cell 3
      have c4 := hba.cell 4
      have hz3 : wr.heap.size ≤ w3.heap.size := Nat.le_trans hw2r hk3.size
      clear hK hact ha hcl hka hba hy hN hk3 FM
      have keep : ∀ (wq : World) (X' : Nat → Prop), Stp X X' (w3.alloc (.cells #[.int .i64 (a j).d, .int .u16 (a j).o, .int .u32 ((a j).n : Int), .int .u8 ((a j).t.toNat : Int), .slice (a j).A (a j).mi (a j).c, .slice (a j).B (a j).k (a j).e] 50)) wq → ModIs S0 wq (.agg #[.slice xA s.n xc, .slice yA s.k yc]) s := fun wq X' hst => by
        have hx' := HXA.out.kept hst.kept (fun g hg e => by have := (HXA.out.lt g hg).1; have := hxlt g e; omega)
        have hy' := HYA.out.kept hst.kept (fun g hg e => by have := (HYA.out.lt g hg).1; have := hxlt g e; omega)
        have hN' : ∀ q, q < s.k → FrNew wq w2.heap.size G q (s.D q) := fun q hq => (HNA.out q hq).kept hst.kept (fun {x n u} h g hg e => by have := (h.lt g hg).1; have := hxlt g e; omega)
        exact modIs_own (X := S0) hx' hy' (fun _ x => x.elim) HW.out.n (frsOk_new hN')
      have KEEP := Lib.hid keep
      clear keep HXA HYA HNA HX2
      by_cases hd2 : (a j).d = 2
      · have g2 : ((a j).d == 2) = true := by rw [hd2]; rfl
        clear hd2
        have OP := Lib.hid (takeOf_is (a j).t HSA.out HW.out)
        go_wp2_with fail
        refine OP.out.mono ?_
        rintro e w5 ⟨rfl, X', hS5, hst5⟩
        have hWn := HW.out.takeOf (a j).t
        have hle := (s.ofN_le HW.out (a j).t).2
        have HM5 := Lib.hid (KEEP.out w5 X' hst5)
        have HS5 := Lib.hid hS5
        have HK5 := Lib.hid (HKA.out.trans (hst5.kept.mono HS.out.low))
        have HWn := Lib.hid hWn
        clear hS5 hst5 hWn OP c0 c3 c4
        rcases s.ofE_or (a j).t with hE | hE
        · go_wp2_with fail
          go_roundw
          case rel => exact ⟨j + 1, _, X', by go_num, by omega, by omega, HS5.out, HWn.out, by show s.ofN (a j).t ≤ _; omega, by show s.k ≤ _; omega, HK5.out⟩
          case measure => simp [intOf]; omega
        · have hsame := s.keep_of (a j).t hE
          rw [hsame] at HS5
          have VA := Lib.hid (values_is HS5.out HW.out.n)
          go_wp2_with fail
          refine VA.out.mono ?_
          rintro e w6 ⟨z, rfl, hz, hk6⟩
          obtain ⟨zA, zc, rfl, hzc⟩ := came_own (S := S0) hz (fun _ _ x => x) HW.out.n
          have FM := Lib.hid (frames_is (HS5.out.kept0 hk6) HW.out)
          have HK6 := Lib.hid hk6
          have HZ := Lib.hid hzc
          clear hz hzc hk6 VA
          go_wp2_with fail
          refine FM.out.mono ?_
          rintro e w7 ⟨y7, G7, rfl, hy7, hN7, hk7⟩
          have hk57 := HK6.out.then0 hk7
          have SA := Lib.hid (same_is zA zc (HM5.out.kept0 hk57) (HZ.out.kept hk7) (frL_new hy7 hN7) HW.out.k)
          have HS7 := Lib.hid (HS5.out.kept0 hk57)
          have HK7 := Lib.hid (HK5.out.then0 hk57)
          clear hy7 hN7 hk7 hk57 FM
          go_wp2_with fail
          refine SA.out.mono ?_
          rintro e w8 ⟨rfl, hk8⟩
          have HS8 := Lib.hid (HS7.out.kept0 hk8)
          have HK8 := Lib.hid (HK7.out.then0 hk8)
          clear hk8 SA
          go_wp2_with fail
          go_roundw
          case rel => exact ⟨j + 1, s, X', by go_num, by omega, by omega, HS8.out, HW.out, Nat.le_trans hn (Nat.mul_le_mul_right _ (Nat.le_succ j)), Nat.le_succ_of_le hk, HK8.out⟩
          case measure => simp [intOf]; omega
      by_cases hd3 : (a j).d = 3
      · have g2 : ((a j).d == 2) = false := beq_eq_false_iff_ne.2 hd2
        have g3 : ((a j).d == 3) = true := by rw [hd3]; rfl
        clear hd3
        have OP := Lib.hid (takeAll_is (a j).A (a j).mi (a j).c (a j).v HSA.out HW.out ((HAC.out.inn.kept HKA.out).mono HS.out.low))
        go_wp2_with fail
        refine OP.out.mono ?_
        rintro e w5 ⟨rfl, X', hS5, hst5⟩
        have hWn := HW.out.takeAll (a j).v (a j).mi
        have hle := (s.allN_le HW.out (a j).v (a j).mi).2
        have HM5 := Lib.hid (KEEP.out w5 X' hst5)
        have HS5 := Lib.hid hS5
        have HK5 := Lib.hid (HKA.out.trans (hst5.kept.mono HS.out.low))
        have HWn := Lib.hid hWn
        clear hS5 hst5 hWn OP c0 c3 c4
        rcases s.allE_or (a j).v (a j).mi with hE | hE
        · go_wp2_with fail
          go_roundw
          case rel => exact ⟨j + 1, _, X', by go_num, by omega, by omega, HS5.out, HWn.out, by show s.allN (a j).v (a j).mi ≤ _; omega, by show s.k ≤ _; omega, HK5.out⟩
          case measure => simp [intOf]; omega
        · have hsame := s.keep_all (a j).v (a j).mi hE
          rw [hsame] at HS5
          have VA := Lib.hid (values_is HS5.out HW.out.n)
          go_wp2_with fail
          refine VA.out.mono ?_
          rintro e w6 ⟨z, rfl, hz, hk6⟩
          obtain ⟨zA, zc, rfl, hzc⟩ := came_own (S := S0) hz (fun _ _ x => x) HW.out.n
          have FM := Lib.hid (frames_is (HS5.out.kept0 hk6) HW.out)
          have HK6 := Lib.hid hk6
          have HZ := Lib.hid hzc
          clear hz hzc hk6 VA
          go_wp2_with fail
          refine FM.out.mono ?_
          rintro e w7 ⟨y7, G7, rfl, hy7, hN7, hk7⟩
          have hk57 := HK6.out.then0 hk7
          have SA := Lib.hid (same_is zA zc (HM5.out.kept0 hk57) (HZ.out.kept hk7) (frL_new hy7 hN7) HW.out.k)
          have HS7 := Lib.hid (HS5.out.kept0 hk57)
          have HK7 := Lib.hid (HK5.out.then0 hk57)
          clear hy7 hN7 hk7 hk57 FM
          go_wp2_with fail
          refine SA.out.mono ?_
          rintro e w8 ⟨rfl, hk8⟩
          have HS8 := Lib.hid (HS7.out.kept0 hk8)
          have HK8 := Lib.hid (HK7.out.then0 hk8)
          clear hk8 SA
          go_wp2_with fail
          go_roundw
          case rel => exact ⟨j + 1, s, X', by go_num, by omega, by omega, HS8.out, HW.out, Nat.le_trans hn (Nat.mul_le_mul_right _ (Nat.le_succ j)), Nat.le_succ_of_le hk, HK8.out⟩
          case measure => simp [intOf]; omega
      by_cases hd5 : (a j).d = 5
      · have g2 : ((a j).d == 2) = false := beq_eq_false_iff_ne.2 hd2
        have g3 : ((a j).d == 3) = false := beq_eq_false_iff_ne.2 hd3
        have g5 : ((a j).d == 5) = true := by rw [hd5]; rfl
        clear hd5
        have OP := Lib.hid (close_is HSA.out HW.out)
        go_wp2_with fail
        refine OP.out.mono ?_
        rintro e w5 ⟨⟨xf, rfl, _⟩, X', hS5, hst5⟩
        have hWn := HW.out.close
        have hle := s.close_n HW.out
        have HM5 := Lib.hid (KEEP.out w5 X' hst5)
        have HS5 := Lib.hid hS5
        have HK5 := Lib.hid (HKA.out.trans (hst5.kept.mono HS.out.low))
        have HWn := Lib.hid hWn
        clear hS5 hst5 hWn OP c0 c3 c4
        rcases s.closeE_or with hE | hE
        · go_wp2_with fail
          go_roundw
          case rel => exact ⟨j + 1, _, X', by go_num, by omega, by omega, HS5.out, HWn.out, by have := hle.1; omega, by have := hle.2; omega, HK5.out⟩
          case measure => simp [intOf]; omega
        · have hsame := s.keep_close hE
          rw [hsame] at HS5
          have VA := Lib.hid (values_is HS5.out HW.out.n)
          go_wp2_with fail
          refine VA.out.mono ?_
          rintro e w6 ⟨z, rfl, hz, hk6⟩
          obtain ⟨zA, zc, rfl, hzc⟩ := came_own (S := S0) hz (fun _ _ x => x) HW.out.n
          have FM := Lib.hid (frames_is (HS5.out.kept0 hk6) HW.out)
          have HK6 := Lib.hid hk6
          have HZ := Lib.hid hzc
          clear hz hzc hk6 VA
          go_wp2_with fail
          refine FM.out.mono ?_
          rintro e w7 ⟨y7, G7, rfl, hy7, hN7, hk7⟩
          have hk57 := HK6.out.then0 hk7
          have SA := Lib.hid (same_is zA zc (HM5.out.kept0 hk57) (HZ.out.kept hk7) (frL_new hy7 hN7) HW.out.k)
          have HS7 := Lib.hid (HS5.out.kept0 hk57)
          have HK7 := Lib.hid (HK5.out.then0 hk57)
          clear hy7 hN7 hk7 hk57 FM
          go_wp2_with fail
          refine SA.out.mono ?_
          rintro e w8 ⟨rfl, hk8⟩
          have HS8 := Lib.hid (HS7.out.kept0 hk8)
          have HK8 := Lib.hid (HK7.out.then0 hk8)
          clear hk8 SA
          go_wp2_with fail
          go_roundw
          case rel => exact ⟨j + 1, s, X', by go_num, by omega, by omega, HS8.out, HW.out, Nat.le_trans hn (Nat.mul_le_mul_right _ (Nat.le_succ j)), Nat.le_succ_of_le hk, HK8.out⟩
          case measure => simp [intOf]; omega
      have g2 : ((a j).d == 2) = false := beq_eq_false_iff_ne.2 hd2
      have g3 : ((a j).d == 3) = false := beq_eq_false_iff_ne.2 hd3
      have g5 : ((a j).d == 5) = false := beq_eq_false_iff_ne.2 hd5
      have hRD : Ready X S0 (w3.alloc (.cells #[.int .i64 (a j).d, .int .u16 (a j).o, .int .u32 ((a j).n : Int), .int .u8 ((a j).t.toNat : Int), .slice (a j).A (a j).mi (a j).c, .slice (a j).B (a j).k (a j).e] 50)) sb w.heap.size s ⟨0, fun _ => 0, 0, fun _ => frm0⟩ (.agg #[.slice none 0 0, .slice none 0 0]) (a j).A (a j).mi (a j).c (a j).v (a j).B (a j).k (a j).e (a j).u := ⟨HSA.out, HW.out, mod_new, wf_new, HAC.out.inn.kept HKA.out, HAC.out.out.kept HKA.out, by omega, by show 0 + (a j).mi ≤ _; omega, by omega, by show 0 + 1 ≤ _; omega⟩
      obtain ⟨q1, q2, q3⟩ := St.act_wf HW.out (a j).d (a j).o (a j).t (a j).mi (a j).v (a j).k (a j).u (by omega) (by omega)
      have BO := Lib.hid (both_is (d := (a j).d) (o := (a j).o) (t := (a j).t) HAC.out.ni hRD)
      have HQ := Lib.hid (And.intro q1 (And.intro q2 q3))
      clear hRD q1 q2 q3
      go_wp2_with fail
      refine BO.out.mono ?_
      rintro e w5 ⟨mv', bb, X', rfl, _, hS5, hst5, _⟩
      have HS5 := Lib.hid hS5
      have HK5 := Lib.hid (HKA.out.trans (hst5.kept.mono HS.out.low))
      clear hS5 hst5 BO c0 c3 c4
      go_wp2_with fail
      go_roundw
      case rel => exact ⟨j + 1, _, X', by go_num, by omega, by omega, HS5.out, HQ.out.1, by have := HQ.out.2.1; omega, by have := HQ.out.2.2; omega, HK5.out⟩
      case measure => simp [intOf]; omega
    · have hcase : (l ≤ j) ∨ (j < l ∧ j = 60) := by omega
      clear hS hK hW hlt
      rcases hcase with h | ⟨h1, rfl⟩
      · have g1 : (l : Int) ≤ (j : Int) := by omega
        go_wp2_with fail
        refine (lives_any _).mono ?_
        rintro e w9 ⟨rfl, hk9⟩
        go_wp2_with fail
        go_ret
        exact ⟨rfl, Kept.toS0 (HK.out.then0 hk9)⟩
      · have g1 : (((60 : Nat) : Int)) < (l : Int) := by omega
        go_wp2_with fail
        refine (lives_any _).mono ?_
        rintro e w9 ⟨rfl, hk9⟩
        go_wp2_with fail
        go_ret
        exact ⟨rfl, Kept.toS0 (HK.out.then0 hk9)⟩
end Go.Proofs.Ytpbaojjcbpfdaaa
