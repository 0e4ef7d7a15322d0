/- The walk of the statement StackFloor. No condition. -/
import Derived.Test.YtpbaojjcbpfdaaaLStkP
namespace Go.Proofs.Ytpbaojjcbpfdaaa
open Go.RowKit

/-- What stays below a frame. -/
structure Flo (s : St) (m0 : Nat) (vb : Nat → UInt8) : Prop where
  k : 1 ≤ s.k
  h : (s.D 0).h = m0
  v : ∀ i, i < m0 → s.v i = vb i

theorem flo_step {s : St} {m0 : Nat} {vb : Nat → UInt8} (hw : s.Wf) (hf : Flo s m0 vb) (d o : Int) (t : UInt8) (mi : Nat) (v : Nat → UInt8) (k : Nat) (u : Nat → UInt8) (hd : ¬ (d = 5 ∧ s.k = 1)) : Flo (s.act d o t mi v k u) m0 vb := by
  have hle : m0 ≤ s.n := by rw [← hf.h]; exact hw.le 0 hf.k
  have haft : ∀ u' : Nat → UInt8, ∀ i, i < m0 → afterB s.n s.v u' i = vb i := fun u' i hi => by unfold afterB; rw [if_pos (by omega)]; exact hf.v i hi
  unfold St.act
  split
  · exact ⟨hf.k, hf.h, haft v⟩
  split
  · exact ⟨hf.k, hf.h, hf.v⟩
  split
  · exact ⟨hf.k, hf.h, hf.v⟩
  split
  · exact ⟨hf.k, hf.h, hf.v⟩
  split
  · refine ⟨Nat.le_add_left _ _, ?_, haft v⟩
    show (if 0 = s.k then (⟨o, mi, v, k, u, s.n, false⟩ : Frm) else s.D 0).h = m0
    rw [if_neg (by have := hf.k; omega)]
    exact hf.h
  split
  · rename_i h5
    unfold St.close
    split
    · refine ⟨?_, hf.h, hf.v⟩
      show 1 ≤ s.k - 1
      have := hf.k
      have : s.k ≠ 1 := fun e => hd ⟨h5, e⟩
      omega
    · exact hf
  split
  · unfold St.dead
    split
    · exact hf
    · refine ⟨hf.k, ?_, hf.v⟩
      show (if 0 = s.k - 1 then ({ s.top with dead := true } : Frm) else s.D 0).h = m0
      split
      · rename_i e
        have : s.top = s.D 0 := by unfold St.top; rw [← e]
        rw [this]
        exact hf.h
      · exact hf.h
  · exact hf

set_option maxRecDepth 100000 in
set_option maxHeartbeats 6400000 in
theorem stkFloor_any (A0 : Option Addr) (m0 ca : Nat) (vb : Nat → UInt8) (L : Option Addr) (l lc : Nat) (a : Nat → ActV) (w : World) (hA : Came (SB w.heap.size) w A0 m0 ca vb) (hm0 : m0 ≤ 1048576) (hL : ActsAt w L l a) : Calls Try.prog 6 #[.slice A0 m0 ca, .slice L l lc] w fun e w' => e = .returned (.bool true) ∧ Kept S0 w w' := by
  have HL := Lib.hid hL
  have HA := Lib.hid hA
  have hll := hL.len
  clear hL hA
  go_enter Try.func6, Try.ntmps6
  go_wp2_with fail
  refine (newstk_any w).mono ?_
  rintro e w1 ⟨sb, rfl, hm1, hk1⟩
  have hs1 := stk_new hm1
  have hK1 : Kept (SB w.heap.size) w w1 := hk1.of0 _
  have PU := Lib.hid (push_is A0 m0 ca vb hs1 (HA.out.kept hK1).at (fun h => (HA.out.none h).1) (by show 0 + m0 ≤ _; omega))
  have HS1 := Lib.hid hs1
  have HK1 := Lib.hid hK1
  clear hm1 hk1 hs1 hK1
  go_wp2_with fail
  refine PU.out.mono ?_
  rintro e w2 ⟨rfl, X2, hs2, hst2⟩
  have hK2 := HK1.out.trans (hst2.kept.mono HS1.out.low)
  have OP := Lib.hid (open_is 3 none none 0 0 0 0 vb vb hs2 (came_nil vb) (came_nil vb) (by show 0 + m0 + 0 ≤ _; omega) (by show 0 ≤ _; omega))
  have HS2 := Lib.hid hs2
  have HK2 := Lib.hid hK2
  clear hs2 hst2 hK2 PU
  go_wp2_with fail
  refine OP.out.mono ?_
  rintro e w3 ⟨rfl, X3, hs3, hst3⟩
  have hK3 := HK2.out.trans (hst3.kept.mono HS2.out.low)
  have hwf0 : St.Wf ⟨0, fun _ => 0, 0, fun _ => frm0⟩ := wf_new
  have hwf3 := (hwf0.push vb m0 (by show 0 + m0 ≤ _; omega)).open 3 0 vb 0 vb (by show 0 + m0 + 0 ≤ _; omega) (by show 0 + 1 ≤ _; omega)
  have hfl3 : Flo ((St.push ⟨0, fun _ => 0, 0, fun _ => frm0⟩ vb m0).open 3 0 vb 0 vb) m0 vb := ⟨Nat.le_refl _, (by show 0 + m0 = m0; omega), fun i hi => by
    show afterB (0 + m0) (afterB 0 (fun _ => 0) vb) vb i = vb i
    unfold afterB
    rw [if_pos (by omega), if_neg (by omega)]
    congr 1⟩
  have hn3 : ((St.push ⟨0, fun _ => 0, 0, fun _ => frm0⟩ vb m0).open 3 0 vb 0 vb).n ≤ m0 + 0 * 1048576 := by show 0 + m0 + 0 ≤ _; omega
  have hk3 : ((St.push ⟨0, fun _ => 0, 0, fun _ => frm0⟩ vb m0).open 3 0 vb 0 vb).k ≤ 0 + 1 := Nat.le_refl _
  have HI := Lib.hid (And.intro hs3 (And.intro hwf3 (And.intro hfl3 (And.intro hn3 (And.intro hk3 hK3)))))
  clear hs3 hst3 hK3 hwf0 hwf3 hfl3 hn3 hk3 OP
  go_wp2_with fail
  go_loopw [6] (fun i wr => ∃ (j : Nat) (s : St) (X : Nat → Prop), i = .int .i64 (j : Int) ∧ j ≤ 60 ∧ j ≤ l ∧ StkIs wr sb w.heap.size X S0 s ∧ s.Wf ∧ Flo s m0 vb ∧ s.n ≤ m0 + j * 1048576 ∧ s.k ≤ j + 1 ∧ Kept (SB w.heap.size) w wr) (fun i _ => l - (intOf i).toNat)
  case atStart => exact ⟨0, _, X3, rfl, by omega, by omega, HI.out.1, HI.out.2.1, HI.out.2.2.1, HI.out.2.2.2.1, HI.out.2.2.2.2.1, HI.out.2.2.2.2.2⟩
  case round =>
    obtain ⟨j, s, X, rfl, hj60, hjl, hS, hW, hF, hn, hk, hK⟩ := hrel
    have HS := Lib.hid hS
    have HK := Lib.hid hK
    have HW := Lib.hid hW
    have HF := Lib.hid hF
    by_cases hlt : j < l ∧ j < 60
    · obtain ⟨h1, h2⟩ := hlt
      have hji : (j : Int) < (l : Int) := by omega
      have hj8 : (j : Int) < 60 := by omega
      have hj0 : (0 : Int) ≤ (j : Int) := by omega
      have uj : IntKind.i64.wrap ((j : Int) + 1) = (j : Int) + 1 := IntWalk.i64_in _ (by omega)
      obtain ⟨b, o, hLe, hact⟩ := HL.out.acts (by omega)
      subst hLe
      have ha := hact j h1
      have hcl : ∀ i, i < 6 → wr.cell? ⟨b, o + j * 6 + i, none⟩ = some ((a j).cell i) := fun i hi => by
        have h3 := ha.cells i hi
        have hb4 : b < w.heap.size := World.block_lt_of_cell? _ _ h3
        exact (hK.cell (p := ⟨b, o + j * 6 + i, none⟩) hb4 (fun e => by have e' : w.heap.size ≤ b := e; omega)).trans h3
      have p0 : wr.cell? ⟨b, o + j * 6, none⟩ = some (.int .i64 (a j).d) := hcl 0 (by omega)
      have p1 : wr.cell? ⟨b, o + j * 6 + 1, none⟩ = some (.int .u16 (a j).o) := hcl 1 (by omega)
      have p2 : wr.cell? ⟨b, o + j * 6 + 2, none⟩ = some (.int .u32 ((a j).n : Int)) := hcl 2 (by omega)
      have p3 : wr.cell? ⟨b, o + j * 6 + 3, none⟩ = some (.int .u8 ((a j).t.toNat : Int)) := hcl 3 (by omega)
      have p4 : wr.cell? ⟨b, o + j * 6 + 4, none⟩ = some (.slice (a j).A (a j).mi (a j).c) := hcl 4 (by omega)
      have p5 : wr.cell? ⟨b, o + j * 6 + 5, none⟩ = some (.slice (a j).B (a j).k (a j).e) := hcl 5 (by omega)
      have hka := (Kept.refl S0 wr).alloc (.cells #[.int .i64 (a j).d, .int .u16 (a j).o, .int .u32 ((a j).n : Int), .int .u8 ((a j).t.toNat : Int), .slice (a j).A (a j).mi (a j).c, .slice (a j).B (a j).k (a j).e] 50)
      have hba := Blk.new wr 50 #[.int .i64 (a j).d, .int .u16 (a j).o, .int .u32 ((a j).n : Int), .int .u8 ((a j).t.toNat : Int), .slice (a j).A (a j).mi (a j).c, .slice (a j).B (a j).k (a j).e]
      have hsm := ha.small
      have HAC := Lib.hid ha
      have HKA := Lib.hid (HK.out.then0 hka)
      have HSA := Lib.hid (hS.kept0 hka)
      have HBA := Lib.hid hba
      have hkf : s.k < 1099511627776 := by have := hW.k; omega
      have hD1 := hF.k
      have hD2 : m0 ≤ s.n := by rw [← hF.h]; exact hW.le 0 hF.k
      clear hS hW hF hK hact ha hcl hka hba
      have step : ∀ (wq : World), StkIs wq sb w.heap.size X S0 s → Kept (SB w.heap.size) w wq → ¬ ((a j).d = 5 ∧ s.k = 1) → Calls Try.prog 20 #[.pointer (some ⟨sb, 0, none⟩), .agg #[.slice none 0 0, .slice none 0 0], .agg #[.int .i64 (a j).d, .int .u16 (a j).o, .int .u32 ((a j).n : Int), .int .u8 ((a j).t.toNat : Int), .slice (a j).A (a j).mi (a j).c, .slice (a j).B (a j).k (a j).e]] wq fun e w' => ∃ mv' bb X', e = .returned (.tuple #[mv', .bool bb]) ∧ StkIs w' sb w.heap.size X' S0 (s.doAct (a j)) ∧ (s.doAct (a j)).Wf ∧ Flo (s.doAct (a j)) m0 vb ∧ (s.doAct (a j)).n ≤ m0 + (j + 1) * 1048576 ∧ (s.doAct (a j)).k ≤ j + 1 + 1 ∧ Kept (SB w.heap.size) w w' := fun wq hSq hKq hd => by
        have hRD : Ready X S0 wq sb w.heap.size s ⟨0, fun _ => 0, 0, fun _ => frm0⟩ (.agg #[.slice none 0 0, .slice none 0 0]) (a j).A (a j).mi (a j).c (a j).v (a j).B (a j).k (a j).e (a j).u := ⟨hSq, HW.out, mod_new, wf_new, HAC.out.inn.kept hKq, HAC.out.out.kept hKq, by omega, by show 0 + (a j).mi ≤ _; omega, by omega, by show 0 + 1 ≤ _; omega⟩
        obtain ⟨q1, q2, q3⟩ := St.act_wf HW.out (a j).d (a j).o (a j).t (a j).mi (a j).v (a j).k (a j).u (by omega) (by omega)
        exact (both_is (d := (a j).d) (o := (a j).o) (t := (a j).t) HAC.out.ni hRD).mono fun e w' ⟨mv', bb, X', he, _, hS', hst', _⟩ => ⟨mv', bb, X', he, hS', q1, flo_step HW.out HF.out _ _ _ _ _ _ _ hd, by show (s.act _ _ _ _ _ _ _).n ≤ _; omega, by show (s.act _ _ _ _ _ _ _).k ≤ _; omega, hKq.trans (hst'.kept.mono hSq.low)⟩
      have STEP := Lib.hid step
      clear step
      by_cases hd : (a j).d = 5 ∧ s.k = 1
      · obtain ⟨hd5, hs1⟩ := hd
        have g5 : ((a j).d == 5) = true := by rw [hd5]; rfl
        have gk : ((s.k : Int) == 1) = true := by rw [hs1]; rfl
        clear hd5 hs1
        have FM := Lib.hid (frames_is HSA.out HW.out)
        go_wp2_with fail
        refine FM.out.mono ?_
        rintro e w5 ⟨y, G, rfl, hy, _, hk5⟩
        obtain ⟨yA, yc, rfl, _, _, _⟩ := hy.out
        have HS5 := Lib.hid (HSA.out.kept0 hk5)
        have HK5 := Lib.hid (HKA.out.then0 hk5)
        clear hy hk5 FM
        go_wp2_with fail
        go_roundw
        case rel => exact ⟨j + 1, s, X, by go_num, by omega, by omega, HS5.out, HW.out, HF.out, Nat.le_trans hn (Nat.add_le_add_left (Nat.mul_le_mul_right _ (Nat.le_succ j)) m0), Nat.le_succ_of_le hk, HK5.out⟩
        case measure => simp [intOf]; omega
      · by_cases hd5 : (a j).d = 5
        · have g5 : ((a j).d == 5) = true := by rw [hd5]; rfl
          have gk : ((s.k : Int) == 1) = false := beq_eq_false_iff_ne.2 (fun e => hd ⟨hd5, by omega⟩)
          clear hd5
          have FM := Lib.hid (frames_is HSA.out HW.out)
          go_wp2_with fail
          refine FM.out.mono ?_
          rintro e w5 ⟨y, G, rfl, hy, _, hk5⟩
          obtain ⟨yA, yc, rfl, _, _, _⟩ := hy.out
          have hba := hk5.blk HBA.out (fun x => x)
          have c0 := hba.cell 0
          have c1 := hba.cell 1
          have c2 := hba.cell 2
          have c3 := hba.cell 3
          have c4 := hba.cell 4
          have c5 := hba.cell 5
          have ST := Lib.hid (STEP.out w5 (HSA.out.kept0 hk5) (HKA.out.then0 hk5) hd)
          clear hy hk5 hba FM
          go_wp2_with fail
          refine ST.out.mono ?_
          rintro e w6 ⟨mv', bb, X', rfl, hS6, hW6, hF6, hn6, hk6, hK6⟩
          obtain ⟨s', hs'⟩ : ∃ s', s' = s.doAct (a j) := ⟨_, rfl⟩
          rw [← hs'] at hS6 hW6 hF6 hn6 hk6
          clear hs'
          have hm6 : m0 ≤ s'.n := by rw [← hF6.h]; exact hW6.le 0 hF6.k
          have VA := Lib.hid (values_is hS6 hW6.n)
          have HS6 := Lib.hid hS6
          have HW6 := Lib.hid hW6
          have HF6 := Lib.hid hF6
          have HK6 := Lib.hid hK6
          clear hS6 hW6 hF6 hK6 ST
          go_wp2_with fail
          refine VA.out.mono ?_
          rintro e w7 ⟨x, rfl, hx, hk7⟩
          obtain ⟨xA, xc, rfl, hnc, _, hsl⟩ := hx.out
          rw [Nat.mul_one] at hsl
          have hcut := hsl.cut0 hm6 hnc
          obtain ⟨E, rr1, d1⟩ := run_cut_h (P := Try.prog) 22 30 Try.underlying22 Try.sizeT xA s'.n xc .i64 (m0 : Int) m0 rfl (by omega)
          rw [← d1] at hcut
          have hK7 := HK6.out.then0 hk7
          have TY := Lib.hid (types_same E A0 m0 xc ca s'.v vb w7 hcut (HA.out.kept hK7).at (by omega) HF6.out.v)
          have HS7 := Lib.hid (HS6.out.kept0 hk7)
          have HK7 := Lib.hid hK7
          have gv : (m0 : Int) ≤ (s'.n : Int) := by omega
          clear hx hk7 hsl hcut d1 hK7 VA hnc
          go_wp2_with fail
          refine TY.out.mono ?_
          rintro e w8 ⟨rfl, hk8⟩
          have FM := Lib.hid (frames_is (HS7.out.kept0 hk8) HW6.out)
          have HS8 := Lib.hid (HS7.out.kept0 hk8)
          have HK8 := Lib.hid (HK7.out.then0 hk8)
          clear hk8 TY
          go_wp2_with fail
          refine FM.out.mono ?_
          rintro e w9 ⟨y9, G9, rfl, hy9, _, hk9⟩
          obtain ⟨yA9, yc9, rfl, _, _, _⟩ := hy9.out
          have gf : (1 : Int) ≤ (s'.k : Int) := by have := HF6.out.k; omega
          have HS9 := Lib.hid (HS8.out.kept0 hk9)
          have HK9 := Lib.hid (HK8.out.then0 hk9)
          clear hy9 hk9 FM
          go_wp2_with fail
          go_roundw
          case rel => exact ⟨j + 1, s', X', by go_num, by omega, by omega, HS9.out, HW6.out, HF6.out, hn6, hk6, HK9.out⟩
          case measure => simp [intOf]; omega
        · have g5 : ((a j).d == 5) = false := beq_eq_false_iff_ne.2 hd5
          have ST := Lib.hid (STEP.out _ HSA.out HKA.out hd)
          go_wp2_with fail
          refine ST.out.mono ?_
          rintro e w6 ⟨mv', bb, X', rfl, hS6, hW6, hF6, hn6, hk6, hK6⟩
          obtain ⟨s', hs'⟩ : ∃ s', s' = s.doAct (a j) := ⟨_, rfl⟩
          rw [← hs'] at hS6 hW6 hF6 hn6 hk6
          clear hs'
          have hm6 : m0 ≤ s'.n := by rw [← hF6.h]; exact hW6.le 0 hF6.k
          have VA := Lib.hid (values_is hS6 hW6.n)
          have HS6 := Lib.hid hS6
          have HW6 := Lib.hid hW6
          have HF6 := Lib.hid hF6
          have HK6 := Lib.hid hK6
          clear hS6 hW6 hF6 hK6 ST
          go_wp2_with fail
          refine VA.out.mono ?_
          rintro e w7 ⟨x, rfl, hx, hk7⟩
          obtain ⟨xA, xc, rfl, hnc, _, hsl⟩ := hx.out
          rw [Nat.mul_one] at hsl
          have hcut := hsl.cut0 hm6 hnc
          obtain ⟨E, rr1, d1⟩ := run_cut_h (P := Try.prog) 22 30 Try.underlying22 Try.sizeT xA s'.n xc .i64 (m0 : Int) m0 rfl (by omega)
          rw [← d1] at hcut
          have hK7 := HK6.out.then0 hk7
          have TY := Lib.hid (types_same E A0 m0 xc ca s'.v vb w7 hcut (HA.out.kept hK7).at (by omega) HF6.out.v)
          have HS7 := Lib.hid (HS6.out.kept0 hk7)
          have HK7 := Lib.hid hK7
          have gv : (m0 : Int) ≤ (s'.n : Int) := by omega
          clear hx hk7 hsl hcut d1 hK7 VA hnc
          go_wp2_with fail
          refine TY.out.mono ?_
          rintro e w8 ⟨rfl, hk8⟩
          have FM := Lib.hid (frames_is (HS7.out.kept0 hk8) HW6.out)
          have HS8 := Lib.hid (HS7.out.kept0 hk8)
          have HK8 := Lib.hid (HK7.out.then0 hk8)
          clear hk8 TY
          go_wp2_with fail
          refine FM.out.mono ?_
          rintro e w9 ⟨y9, G9, rfl, hy9, _, hk9⟩
          obtain ⟨yA9, yc9, rfl, _, _, _⟩ := hy9.out
          have gf : (1 : Int) ≤ (s'.k : Int) := by have := HF6.out.k; omega
          have HS9 := Lib.hid (HS8.out.kept0 hk9)
          have HK9 := Lib.hid (HK8.out.then0 hk9)
          clear hy9 hk9 FM
          go_wp2_with fail
          go_roundw
          case rel => exact ⟨j + 1, s', X', by go_num, by omega, by omega, HS9.out, HW6.out, HF6.out, hn6, hk6, HK9.out⟩
          case measure => simp [intOf]; omega
    · have hcase : (l ≤ j) ∨ (j < l ∧ j = 60) := by omega
      clear hS hK hW hF hlt
      rcases hcase with h | ⟨h1, rfl⟩
      · have g1 : (l : Int) ≤ (j : Int) := by omega
        go_wp2_with fail
        refine (lives_any _).mono ?_
        rintro e w9 ⟨rfl, hk9⟩
        go_wp2_with fail
        go_ret
        exact ⟨rfl, Kept.toS0 (HK.out.then0 hk9)⟩
      · have g1 : (((60 : Nat) : Int)) < (l : Int) := by omega
        go_wp2_with fail
        refine (lives_any _).mono ?_
        rintro e w9 ⟨rfl, hk9⟩
        go_wp2_with fail
        go_ret
        exact ⟨rfl, Kept.toS0 (HK.out.then0 hk9)⟩
end Go.Proofs.Ytpbaojjcbpfdaaa
