/- Contracts of the document's tables: Put, Init, Copy. No condition. -/
import Derived.Test.YtpeekldngelkkaaRefC
import Derived.Test.YtpeekldngelkkaaTabI
namespace Go.Proofs.Ytpeekldngelkkaa
open Go.RowKit

section
variable {w : World} {tb base N : Nat} {el mn mx : Int} {bd : Bool} {lv : Value} {f : Nat → V3}

set_option maxHeartbeats 800000 in
theorem rput_trap (x y n : Int) (A : Option Addr) (m c : Nat) (hm : RefAt w tb base N el mn mx bd lv f) (hN : N ≤ 16384) (hmm : m ≤ 9223372036854775806)
    (h1 : 0 ≤ x) (h2 : 0 ≤ y) (h3 : 0 ≤ n) (h4 : x ≤ 4294967295) (h5 : y ≤ 4294967295) (h6 : n ≤ 4294967295) (ho : inB x n N = false ∨ inB y n m = false) :
    Calls Try.prog 50 #[.pointer (some ⟨tb, 0, none⟩), .int .u32 x, .slice A m c, .int .u32 y, .int .u32 n] w fun e w' => e = .returned (.int .i64 6) ∧ Kept S0 w w' := by
  obtain ⟨B, d, rfl, _, _, _⟩ := hm.own.out
  have c4 := hm.c4
  have HX := Lib.hid (show inB x n N = false ∨ (inB x n N = true ∧ inB y n m = false) from by
    cases hx : inB x n N with
    | false => exact .inl rfl
    | true => exact .inr ⟨rfl, ho.resolve_left (by rw [hx]; simp)⟩)
  clear hm ho
  go_enter Try.func50, Try.ntmps50
  go_wp2_with fail
  refine (rwithin_any _ _ _ _ h1 h3 (by omega) (by omega) h4 h6).mono ?_
  rintro e w3 ⟨rfl, rfl⟩
  rcases HX.out with hx | ⟨hx, hy⟩
  · rw [hx]
    go_wp2_with fail
    go_ret
    exact ⟨rfl, Kept.refl S0 w⟩
  · rw [hx]
    have HY := Lib.hid hy
    clear hx hy
    go_wp2_with fail
    refine (rwithin_any _ _ _ _ h2 h3 (by omega) (by omega) h5 h6).mono ?_
    rintro e w4 ⟨rfl, rfl⟩
    rw [HY.out]
    go_wp2_with fail
    go_ret
    exact ⟨rfl, Kept.refl S0 w⟩

structure PutRel (w wr : World) (tb base N : Nat) (el mn mx : Int) (bd : Bool) (lv : Value) (f : Nat → V3) (a n : Nat) (u : Nat → V3) (was : Value) (j : Nat) : Prop where
  tab : RefAt wr tb base N el mn mx bd lv (overV f a j u)
  kept : Kept (SO lv) w wr
  was : Own wr w.heap.size 43 3 AnyV was n (vcell u)

set_option maxHeartbeats 1600000 in
theorem rput_in (a y n : Nat) (A : Option Addr) (m c : Nat) (v : Nat → V3) (hm : RefAt w tb base N el mn mx bd lv f) (hN : N ≤ 16384) (hA : Sl w A (m * 3) (vcell v)) (hA0 : A = none → m = 0) (hmm : m ≤ 9223372036854775806) (hmc : m ≤ c) (h5 : y ≤ 4294967295) (ha : a + n ≤ N) (hy : y + n ≤ m) :
    Calls Try.prog 50 #[.pointer (some ⟨tb, 0, none⟩), .int .u32 (a : Int), .slice A m c, .int .u32 (y : Int), .int .u32 (n : Int)] w fun e w' => e = .returned (.int .i64 0) ∧ RefAt w' tb base N el mn mx bd lv (overV f a n (fun i => v (y + i))) ∧ Kept (SO lv) w w' := by
  obtain ⟨B, d, hlv, _, _, _⟩ := hm.own.out
  have c4 := hm.c4
  rw [hlv] at c4
  have u2 : IntKind.i64.wrap (y : Int) = (y : Int) := IntWalk.i64_in _ (by omega)
  have u3 : IntKind.i64.wrap (n : Int) = (n : Int) := IntWalk.i64_in _ (by omega)
  have u1 : IntKind.i64.wrap (a : Int) = (a : Int) := IntWalk.i64_in _ (by omega)
  have u5 : IntKind.i64.wrap ((y : Int) + (n : Int)) = (y : Int) + (n : Int) := IntWalk.i64_in _ (by omega)
  obtain ⟨D2, r2, q2⟩ := run_cutS (P := Try.prog) 24 43 3 Try.underlying24 Try.sizeV A m c .u32 .i64 (y : Int) ((y : Int) + (n : Int)) y n rfl (by omega) (by omega)
  have hD : Sl w D2 (n * 3) (vcell (fun i => v (y + i))) := by
    rw [q2]
    exact (Sl.cutS 3 hA (k := y) (m := n) (cap := c) (by omega) (by omega)).congr (fun i _ => vcell_shift v y i)
  have hD0 : D2 = none → n = 0 := by
    intro h
    rw [q2] at h
    cases A with
    | none => have := hA0 rfl; omega
    | some ad =>
      split at h
      · omega
      · cases h
  have hn0 : Own w w.heap.size 43 3 AnyV (.slice none 0 0) 0 (vcell v) := Own.nil _ _ _ _ _ _
  have HX := Lib.hid (inB_true ha)
  have HY := Lib.hid (inB_true hy)
  have HM := Lib.hid hm
  have hnB : n ≤ 16384 := by omega
  have HD := Lib.hid hD
  have HD0 := Lib.hid hD0
  have HLV := Lib.hid hlv
  have hboxlt : ∀ g, lv.ownBlock = some g → g < w.heap.size := fun g hg => (hm.own.lt g hg).2
  have HBL := Lib.hid hboxlt
  clear hm hA hA0 q2 hD hD0 hlv hboxlt
  go_enter Try.func50, Try.ntmps50
  go_wp2_with fail
  refine (rwithin_any _ _ _ _ (by omega) (by omega) (by omega) (by omega) (by omega) (by omega)).mono ?_
  rintro e w3 ⟨rfl, rfl⟩
  rw [HX.out]
  go_wp2_with fail
  refine (rwithin_any _ _ _ _ (by omega) (by omega) (by omega) (by omega) (by omega) (by omega)).mono ?_
  rintro e w4 ⟨rfl, rfl⟩
  rw [HY.out]
  go_wp2_with (at_builtin; refine wpList_append_all rfl (.tmp 30) (.tmp 38) 24 rfl w.heap.size 43 (.agg #[.int .u8 0, .int .u64 0, .int .u64 0]) 3 24 Try.underlying24 Try.infoV rfl (by decide) AnyV (fun _ _ => trivial) _ 0 (vcell v) rfl hn0 D2 n (c - y) (vcell (fun i => v (y + i))) rfl HD.out HD0.out (fun _ _ => trivial) (fun _ _ => vcell_one _ _) (by unfold maxLen; omega) (by omega) (by simp) ?_)
  intro v' w' ha
  have H1 := Lib.hid (ha.own.congr (G := vcell (fun i => v (y + i))) (fun i hi => by simp [after]))
  obtain ⟨A', c', rfl, _⟩ := ha.own.out
  have hk : Kept S0 w w' := (Kept.refl S0 w).grown ha.grown (fun k hk => by cases hk)
  have HK := Lib.hid hk
  have HM2 := Lib.hid (HM.out.kept0 hk)
  clear hk ha c4 hn0
  go_wp2_with fail
  go_loopw [12] (fun i wr => ∃ j : Nat, i = .int .i64 (j : Int) ∧ j ≤ n ∧ PutRel w wr tb base N el mn mx bd lv f a n (fun i => v (y + i)) (.slice A' n c') j) (fun i _ => n - (intOf i).toNat)
  case atStart => exact ⟨0, rfl, by omega, by rw [overV_none]; exact HM2.out, HK.out.of0 _, H1.out⟩
  case round =>
    clear HM2 HK H1
    obtain ⟨j, rfl, hj, hr⟩ := hrel
    by_cases hlt : j < n
    · rcases hr.tab.own with ⟨_, h0⟩ | ⟨g, cap, fr, hlv, hbg, hNc, hcm, hrow, hF, hQ⟩
      · omega
      rcases hr.was with ⟨_, h0⟩ | ⟨g2, cap2, fr2, hw2, hbg2, hNc2, hcm2, hrow2, hF2, _⟩
      · omega
      cases hw2
      obtain ⟨k, hkk⟩ : ∃ k : Nat, k = a + j := ⟨_, rfl⟩
      have u3 : IntKind.i64.wrap ((a : Int) + (j : Int)) = (k : Int) := by rw [IntWalk.i64_in _ (by omega)]; omega
      have hkN : k < N := by omega
      have hji : (j : Int) < (n : Int) := by omega
      have uj : IntKind.i64.wrap ((j : Int) + 1) = (j : Int) + 1 := IntWalk.i64_in _ (by omega)
      have HKK := Lib.hid hkk
      have c5 := hr.tab.c4
      rw [hlv] at c5
      have b0 : wr.cell? ⟨g2, j * 3, none⟩ = some (.int .u8 (v (y + j)).t) := by
        have h : vcell (fun i => v (y + i)) (j * 3) = .int .u8 (v (y + j)).t := vcell_0 _ _
        rw [← h, ← hF2 _ (by omega)]; exact hrow2.cell (by omega)
      have b1 : wr.cell? ⟨g2, j * 3 + 1, none⟩ = some (.int .u64 (v (y + j)).lo) := by
        have h : vcell (fun i => v (y + i)) (j * 3 + 1) = .int .u64 (v (y + j)).lo := vcell_1 _ _
        rw [← h, ← hF2 _ (by omega)]; exact hrow2.cell (by omega)
      have b2 : wr.cell? ⟨g2, j * 3 + 2, none⟩ = some (.int .u64 (v (y + j)).hi) := by
        have h : vcell (fun i => v (y + i)) (j * 3 + 2) = .int .u64 (v (y + j)).hi := vcell_2 _ _
        rw [← h, ← hF2 _ (by omega)]; exact hrow2.cell (by omega)
      have d0 : wr.cell? ⟨g, k * 3, none⟩ = some (fr (k * 3)) := hrow.cell (by omega)
      have d1 : wr.cell? ⟨g, k * 3 + 1, none⟩ = some (fr (k * 3 + 1)) := hrow.cell (by omega)
      have d2 : wr.cell? ⟨g, k * 3 + 2, none⟩ = some (fr (k * 3 + 2)) := hrow.cell (by omega)
      have z0 := hrow.frozen (k * 3)
      have z1 := hrow.frozen (k * 3 + 1)
      have z2 := hrow.frozen (k * 3 + 2)
      have HR := Lib.hid hr
      have HP := Lib.hid (hr.tab.put3 hlv hbg hNc hcm hrow hF k hkN (v (y + j)))
      have HLV2 := Lib.hid hlv
      clear hr hrow hF hQ hkk hlv hrow2 hF2
      go_wp2_with fail
      go_still_tail 12, (by kernel_rfl)
      change wpList _ _ _ _ _ (World.drew _)
      go_wp2_with fail
      go_roundw
      case rel =>
        have hrr := HR.out
        have hkk := HKK.out
        subst hkk
        have hp := HP.out
        refine ⟨j + 1, by go_num, by omega, ⟨?_, hrr.kept.trans hp.2, hrr.was.kept hp.2 (fun q hq e => ?_)⟩⟩
        · rw [← overV_next]
          exact hp.1
        · have h1 := (hrr.was.lt q hq).1
          have h2 := HBL.out q e
          omega
      case measure => simp [intOf]; omega
    · obtain rfl : j = n := by omega
      go_wp2_with fail
      go_ret
      exact ⟨rfl, hr.tab, hr.kept⟩

set_option maxHeartbeats 1600000 in
/-- Init: where all fit it is Put, else it is refused. -/
theorem rinit_is {Q : Int → World → Prop} (x y n : Int) (A : Option Addr) (m c : Nat) (v : Nat → V3) (hm : RefAt w tb base N el mn mx bd lv f) (hel : el = 112 ∨ el = 111) (hA : Sl w A (m * 3) (vcell v)) (hmm : m ≤ 9223372036854775806)
    (hbad : badB v m el = true → ∀ w', Kept S0 w w' → Q 2 w')
    (hput : badB v m el = false → ∀ w', Kept S0 w w' → Calls Try.prog 50 #[.pointer (some ⟨tb, 0, none⟩), .int .u32 x, .slice A m c, .int .u32 y, .int .u32 n] w' fun e w'' => ∃ k : Int, e = .returned (.int .i64 k) ∧ Q k w'') :
    Calls Try.prog 40 #[.pointer (some ⟨tb, 0, none⟩), .int .u32 x, .slice A m c, .int .u32 y, .int .u32 n] w fun e w' => ∃ k : Int, e = .returned (.int .i64 k) ∧ Q k w' := by
  have HA := Lib.hid hA
  have HM := Lib.hid hm
  have HBAD := Lib.hid hbad
  have HPUT := Lib.hid hput
  have HE := Lib.hid hel
  clear hA hm hbad hput hel
  go_enter Try.func40, Try.ntmps40
  go_wp2_with fail
  go_loopw [11] (fun i wr => ∃ k : Nat, i = .int .i64 (k : Int) ∧ k ≤ m ∧ (∀ j, j < k → fitB (v j).t (v j).lo (v j).hi el = true) ∧ Kept S0 w wr) (fun i _ => m - (intOf i).toNat)
  case atStart => exact ⟨0, rfl, by omega, fun j hj => absurd hj (by omega), Kept.refl S0 w⟩
  case round =>
    obtain ⟨k, rfl, hk, hfit, hkw⟩ := hrel
    by_cases hlt : k < m
    · have hA2 := (HA.out.slb.kept hkw (Nat.le_refl _) (fun _ h => h.elim)).sl
      obtain ⟨b1, o1, hAe, hc⟩ := hA2 (by omega)
      subst hAe
      have d0 : wr.cell? ⟨b1, o1 + k * 3, none⟩ = some (.int .u8 (v k).t) := by rw [← vcell_0]; exact hc _ (by omega)
      have d1 : wr.cell? ⟨b1, o1 + k * 3 + 1, none⟩ = some (.int .u64 (v k).lo) := by rw [← vcell_1, Nat.add_assoc]; exact hc _ (by omega)
      have d2 : wr.cell? ⟨b1, o1 + k * 3 + 2, none⟩ = some (.int .u64 (v k).hi) := by rw [← vcell_2, Nat.add_assoc]; exact hc _ (by omega)
      have c0 := (HM.out.kept0 hkw).c0
      have hji : (k : Int) < (m : Int) := by omega
      have uj : IntKind.i64.wrap ((k : Int) + 1) = (k : Int) + 1 := IntWalk.i64_in _ (by omega)
      have HF := Lib.hid hfit
      have HK := Lib.hid hkw
      clear hc hfit hkw hA2
      go_wp2_with fail
      go_still_tail 9, (by kernel_rfl)
      change wpList _ _ _ _ _ (World.drew _)
      go_wp2_with fail
      refine (ris_ref (v k).t (v k).lo (v k).hi el _ HE.out).mono ?_
      rintro e w1 ⟨rfl, hk1⟩
      cases hfk : fitB (v k).t (v k).lo (v k).hi el with
      | true =>
        have HFK := Lib.hid hfk
        clear hfk
        go_wp2_with fail
        go_roundw
        case rel => exact ⟨k + 1, by go_num, by omega, fun j hj => by
          rcases Nat.lt_or_ge j k with h | h
          · exact HF.out j h
          · obtain rfl : j = k := by omega
            exact HFK.out, HK.out.drew.then0 hk1⟩
        case measure => simp [intOf]; omega
      | false =>
        have HFK := Lib.hid hfk
        clear hfk
        go_wp2_with fail
        go_ret
        exact ⟨2, rfl, HBAD.out (badB_true hlt HFK.out) _ (HK.out.drew.then0 hk1)⟩
    · obtain rfl : k = m := by omega
      have HF := Lib.hid (HPUT.out (badB_false hfit) _ hkw)
      clear hfit
      go_wp2_with fail
      refine HF.out.mono ?_
      rintro e w1 ⟨q, rfl, hq⟩
      have HQ := Lib.hid hq
      clear hq
      go_wp2_with fail
      go_ret
      exact ⟨q, rfl, HQ.out⟩
end

section
variable {w : World} {ta tb ba bb Na Nb : Nat} {ela elb mna mnb mxa mxb : Int} {bda bdb : Bool} {la lb : Value} {fa fb : Nat → V3}

set_option maxHeartbeats 800000 in
theorem rcopy_arg (x y n : Int) (ha : RefAt w ta ba Na ela mna mxa bda la fa) (hb : RefAt w tb bb Nb elb mnb mxb bdb lb fb) (hne : ela ≠ elb) :
    Calls Try.prog 41 #[.pointer (some ⟨ta, 0, none⟩), .int .u32 x, .pointer (some ⟨tb, 0, none⟩), .int .u32 y, .int .u32 n] w fun e w' => e = .returned (.int .i64 2) ∧ Kept S0 w w' := by
  have c0 := ha.c0
  have d0 := hb.c0
  have e1 : (ela == elb) = false := beq_eq_false_iff_ne.2 hne
  have e2 : (ela != elb) = true := bne_iff_ne.2 hne
  clear ha hb hne
  go_enter Try.func41, Try.ntmps41
  go_wp2_with fail
  go_quiet (fail)
  go_wp2_with fail
  go_ret
  exact ⟨rfl, (Kept.refl S0 w).drewN _⟩

set_option maxHeartbeats 800000 in
theorem copy_arg (x y n : Int) (ha : TabAt w ta ba Na ela mna mxa bda la fa) (hb : TabAt w tb bb Nb elb mnb mxb bdb lb fb) (hne : ela ≠ elb) :
    Calls Try.prog 11 #[.pointer (some ⟨ta, 0, none⟩), .int .u32 x, .pointer (some ⟨tb, 0, none⟩), .int .u32 y, .int .u32 n] w fun e w' => e = .returned (.int .i64 2) ∧ Kept S0 w w' := by
  have c0 := ha.c0
  have c1 := ha.c1
  have d0 := hb.c0
  have d1 := hb.c1
  have e1 : (ela == elb) = false := beq_eq_false_iff_ne.2 hne
  have e2 : (ela != elb) = true := bne_iff_ne.2 hne
  clear ha hb hne
  go_enter Try.func11, Try.ntmps11
  go_wp2_with fail
  refine (off_made _ _ c0).mono ?_
  rintro e w1 ⟨rfl, rfl⟩
  go_wp2_with fail
  refine (off_made _ _ d0).mono ?_
  rintro e w1 ⟨rfl, rfl⟩
  go_wp2_with fail
  go_quiet (fail)
  go_wp2_with fail
  go_ret
  exact ⟨rfl, (Kept.refl S0 w).drewN _⟩

set_option maxHeartbeats 800000 in
theorem rcopy_out (x y n : Int) (ha : RefAt w ta ba Na ela mna mxa bda la fa) (hb : RefAt w tb bb Nb ela mnb mxb bdb lb fb) (hNa : Na ≤ 16384) (hNb : Nb ≤ 16384) (h1 : 0 ≤ x) (h2 : 0 ≤ y) (h3 : 0 ≤ n) (h4 : x ≤ 4294967295) (h5 : y ≤ 4294967295) (h6 : n ≤ 4294967295) (ho : inB x n Na = false ∨ inB y n Nb = false) :
    Calls Try.prog 41 #[.pointer (some ⟨ta, 0, none⟩), .int .u32 x, .pointer (some ⟨tb, 0, none⟩), .int .u32 y, .int .u32 n] w fun e w' => e = .returned (.int .i64 6) ∧ Kept S0 w w' := by
  have c0 := ha.c0
  have d0 := hb.c0
  obtain ⟨B, d, hlb, _, _, _⟩ := hb.own.out
  have d4 := hb.c4
  rw [hlb] at d4
  have e1 : (ela == ela) = true := beq_self_eq_true ela
  have HA := Lib.hid ha
  have HO := Lib.hid ho
  clear ha hb hlb ho
  go_enter Try.func41, Try.ntmps41
  go_wp2_with fail
  go_quiet (fail)
  go_wp2_with fail
  refine (rput_trap x y n B Nb d (HA.out.drewN _) hNa (by omega) h1 h2 h3 h4 h5 h6 HO.out).mono ?_
  rintro e w2 ⟨rfl, hk⟩
  go_wp2_with fail
  go_ret
  exact ⟨rfl, ((Kept.refl S0 w).drewN _).then0 hk⟩

set_option maxHeartbeats 800000 in
theorem rcopy_in (x y n : Nat) (ha : RefAt w ta ba Na ela mna mxa bda la fa) (hb : RefAt w tb bb Nb ela mnb mxb bdb lb fb) (hNa : Na ≤ 16384) (hNb : Nb ≤ 16384) (hx : x + n ≤ Na) (hy : y + n ≤ Nb) :
    Calls Try.prog 41 #[.pointer (some ⟨ta, 0, none⟩), .int .u32 (x : Int), .pointer (some ⟨tb, 0, none⟩), .int .u32 (y : Int), .int .u32 (n : Int)] w fun e w' => e = .returned (.int .i64 0) ∧ RefAt w' ta ba Na ela mna mxa bda la (overV fa x n (fun i => fb (y + i))) ∧ Kept (SO la) w w' := by
  have c0 := ha.c0
  have d0 := hb.c0
  obtain ⟨B, d, hlb, hBd, _, hBs⟩ := hb.own.out
  have d4 := hb.c4
  rw [hlb] at d4
  have hB0 : B = none → Nb = 0 := by
    intro h
    rcases hb.own with ⟨_, h0⟩ | ⟨g, cap, fr, he, _⟩
    · exact h0
    · rw [hlb] at he; cases he; cases h
  have e1 : (ela == ela) = true := beq_self_eq_true ela
  have HA := Lib.hid ha
  have HB := Lib.hid hBs
  have HB0 := Lib.hid hB0
  clear ha hb hlb hBs hB0
  go_enter Try.func41, Try.ntmps41
  go_wp2_with fail
  go_quiet (fail)
  go_wp2_with fail
  refine (rput_in x y n B Nb d fb (HA.out.drewN _) hNa (HB.out.slb.kept ((Kept.refl S0 w).drewN _) (Nat.le_refl _) (fun _ h => h.elim)).sl HB0.out (by omega) hBd (by omega) hx hy).mono ?_
  rintro e w2 ⟨rfl, hm2, hk⟩
  go_wp2_with fail
  go_ret
  exact ⟨rfl, hm2, (((Kept.refl S0 w).drewN _).of0 _).trans hk⟩
end
end Go.Proofs.Ytpeekldngelkkaa
