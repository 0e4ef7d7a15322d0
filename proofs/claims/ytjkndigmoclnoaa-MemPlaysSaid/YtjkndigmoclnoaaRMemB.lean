/- Contracts of the document's memories: Put, Grow, Sum. No condition. -/
import Derived.Test.YtjkndigmoclnoaaRMemA
import Derived.Test.YtjkndigmoclnoaaMemC
import Derived.Test.YtjkndigmoclnoaaMemG
import Derived.Test.YtjkndigmoclnoaaMemJ
import Derived.Test.YtjkndigmoclnoaaZeros
namespace Go.Proofs.Ytjkndigmoclnoaa
open Go.RowKit

section
variable {w : World} {rb base N : Nat} {mn mx : Int} {bd : Bool} {lv : Value} {f : Nat → UInt8}

set_option maxHeartbeats 800000 in
theorem rput_out (x y n : Int) (A : Option Addr) (m c : Nat) (hm : RMemAt w rb base N mn mx bd lv f) (hN : N ≤ 1048576) (hmm : m ≤ 140737488351232)
    (h1 : 0 ≤ x) (h2 : 0 ≤ y) (h3 : 0 ≤ n) (h4 : x ≤ 18446744073709551615) (h5 : y ≤ 18446744073709551615) (h6 : n ≤ 18446744073709551615) (ho : inB x n N = false ∨ inB y n m = false) :
    Calls Try.prog 39 #[.pointer (some ⟨rb, 0, none⟩), .int .u64 x, .slice A m c, .int .u64 y, .int .u64 n] w fun e w' => e = .returned (.int .i64 6) ∧ w = w' := by
  obtain ⟨B, d, rfl, _, _, _⟩ := hm.own.out
  have c3 := hm.c3
  have HX := Lib.hid (show inB x n N = false ∨ (inB x n N = true ∧ inB y n m = false) from by
    cases hx : inB x n N with
    | false => exact .inl rfl
    | true => exact .inr ⟨rfl, ho.resolve_left (by rw [hx]; simp)⟩)
  clear hm ho
  go_enter Try.func39, Try.ntmps39
  go_wp2_with fail
  refine (rwithin_any _ _ _ _ h1 h3 (by omega) (by omega) h4 h6).mono ?_
  rintro e w3 ⟨rfl, rfl⟩
  rcases HX.out with hx | ⟨hx, hy⟩
  · rw [hx]
    go_wp2_with fail
    go_ret
    exact ⟨rfl, rfl⟩
  · rw [hx]
    have HY := Lib.hid hy
    clear hx hy
    go_wp2_with fail
    refine (rwithin_any _ _ _ _ h2 h3 (by omega) (by omega) h5 h6).mono ?_
    rintro e w4 ⟨rfl, rfl⟩
    rw [HY.out]
    go_wp2_with fail
    go_ret
    exact ⟨rfl, rfl⟩

theorem putF_none (f : Nat → UInt8) (a : Nat) (v : Nat → UInt8) : putF f a 0 v = f := by funext i; unfold putF; rw [if_neg (by omega)]
theorem putF_next (f : Nat → UInt8) (a j : Nat) (v : Nat → UInt8) : putF f a (j + 1) v = fun i => if i = a + j then v j else putF f a j v i := by
  funext i
  unfold putF
  by_cases e : i = a + j
  · subst e; rw [if_pos rfl, if_pos (by omega), show a + j - a = j by omega]
  · rw [if_neg e]
    by_cases e2 : a ≤ i ∧ i < a + j
    · rw [if_pos e2, if_pos (by omega)]
    · rw [if_neg e2, if_neg (by omega)]

structure PutRel (w wr : World) (rb base N : Nat) (mn mx : Int) (bd : Bool) (lv : Value) (f : Nat → UInt8) (a n : Nat) (u : Nat → UInt8) (g : Nat) (j : Nat) : Prop where
  mem : RMemAt wr rb base N mn mx bd lv (putF f a j u)
  kept : Kept (SO lv) w wr
  was : wr.rowIs g 5 n (byteV u)

set_option maxHeartbeats 1600000 in
theorem rput_in (a y n : Nat) (A : Option Addr) (m c : Nat) (v : Nat → UInt8) (hm : RMemAt w rb base N mn mx bd lv f) (hN : N ≤ 1048576) (hA : Sl w A m (byteV v)) (hmm : m ≤ 140737488351232) (h5 : y ≤ 18446744073709551615) (ha : a + n ≤ N) (hy : y + n ≤ m) :
    Calls Try.prog 39 #[.pointer (some ⟨rb, 0, none⟩), .int .u64 (a : Int), .slice A m c, .int .u64 (y : Int), .int .u64 (n : Int)] w fun e w' => e = .returned (.int .i64 0) ∧ RMemAt w' rb base N mn mx bd lv (putF f a n (fun i => v (y + i))) ∧ Kept (SO lv) w w' := by
  obtain ⟨B, d, hlv, _, _, _⟩ := hm.own.out
  have c3 := hm.c3
  rw [hlv] at c3
  have hmk := fun W => run_make_row' (P := Try.prog) 36 5 (.int .u8 0) 1 Try.underlying36 Try.info5 rfl .u64 .u64 n (by omega) (by omega) W
  have HX := Lib.hid (inB_true ha)
  have HY := Lib.hid (inB_true hy)
  have hnB : n ≤ 1048576 := by omega
  have hboxlt : ∀ g, lv.ownBlock = some g → g < w.heap.size := fun g hg => (hm.own.lt g hg).2
  have HBL := Lib.hid hboxlt
  have hrb := hm.obj.lt
  have hka : Kept S0 w (w.alloc (.cells (madeCells #[.int .u8 0] n) 5)) := (Kept.refl S0 w).alloc _
  have HM := Lib.hid (hm.kept0 hka)
  have HS := Lib.hid (hA.slb.kept hka (Nat.le_refl _) (fun _ h => h.elim))
  have hrow : (w.alloc (.cells (madeCells #[.int .u8 0] n) 5)).rowIs w.heap.size 5 n (byteV (fun i => if i < 0 then v (y + i) else 0)) := (World.rowIs_made w (.int .u8 0) n 5).congr (fun i _ => rfl)
  have HROW := Lib.hid hrow
  have HKA := Lib.hid hka
  clear hm hlv hboxlt hA hka hrow
  go_enter Try.func39, Try.ntmps39
  go_wp2_with fail
  refine (rwithin_any _ _ _ _ (by omega) (by omega) (by omega) (by omega) (by omega) (by omega)).mono ?_
  rintro e w3 ⟨rfl, rfl⟩
  rw [HX.out]
  go_wp2_with fail
  refine (rwithin_any _ _ _ _ (by omega) (by omega) (by omega) (by omega) (by omega) (by omega)).mono ?_
  rintro e w4 ⟨rfl, rfl⟩
  rw [HY.out]
  go_wp2_with fail
  clear c3 hmk
  obtain ⟨g, hg⟩ : ∃ g, g = w.heap.size := ⟨_, rfl⟩
  rw [← hg] at HROW HS HBL ⊢
  have HG := Lib.hid hg
  clear hg
  go_loopw [12] (fun i wr => ∃ j : Nat, i = .int .u64 (j : Int) ∧ j ≤ n ∧ wr.rowIs g 5 n (byteV (fun i => if i < j then v (y + i) else 0)) ∧ Kept (S1 g) (w.alloc (.cells (madeCells #[.int .u8 0] n) 5)) wr) (fun i _ => n - (intOf i).toNat)
  case atStart => exact ⟨0, rfl, by omega, HROW.out, Kept.refl _ _⟩
  case round =>
    clear HROW
    obtain ⟨j, rfl, hj, hr, hk⟩ := hrel
    by_cases hlt : j < n
    · obtain ⟨q, hq⟩ : ∃ q : Nat, q = y + j := ⟨_, rfl⟩
      have u3 : IntKind.u64.wrap ((y : Int) + (j : Int)) = (q : Int) := by rw [IntWalk.u64_in _ (by omega)]; omega
      have uj : IntKind.u64.wrap ((j : Int) + 1) = (j : Int) + 1 := IntWalk.u64_in _ (by omega)
      have hji : (j : Int) < (n : Int) := by omega
      have hqm : q < m := by omega
      have hS2 := (HS.out.kept hk (by have := HKA.out.size; have := HG.out; omega) (fun k e => Nat.le_of_eq (Eq.symm e))).sl
      obtain ⟨b1, o1, hAe, hc⟩ := hS2 (by omega)
      subst hAe
      have d0 : wr.cell? ⟨b1, o1 + q, none⟩ = some (.int .u8 ((v q).toNat : Int)) := hc q hqm
      have b0 := hr.cell hlt
      have z0 := hr.frozen j
      have HQ := Lib.hid hq
      have HR := Lib.hid (hr.set j (.int .u8 ((v q).toNat : Int)))
      have HK := Lib.hid (hk.setCell (p := ⟨g, j, none⟩) (.inl rfl) (.int .u8 ((v q).toNat : Int)))
      clear hr hk hS2 hc hq
      go_wp2_with fail
      go_roundw
      case rel =>
        refine ⟨j + 1, by go_num, by omega, HR.out.congr (fun i _ => ?_), HK.out⟩
        show (if i = j then Value.int .u8 ((v q).toNat : Int) else Value.int .u8 (((if i < j then v (y + i) else 0) : UInt8).toNat : Int)) = Value.int .u8 (((if i < j + 1 then v (y + i) else 0) : UInt8).toNat : Int)
        by_cases e : i = j
        · subst e; rw [if_pos rfl, if_pos (by omega), HQ.out]
        · rw [if_neg e]
          by_cases e2 : i < j
          · rw [if_pos e2, if_pos (by omega)]
          · rw [if_neg e2, if_neg (by omega)]
      case measure => simp [intOf]; omega
    · obtain rfl : j = n := by omega
      have hkw : Kept S0 w wr := HKA.out.trans_ hk (fun i e => .inr (by have e' : i = g := e; rw [e', HG.out]; exact Nat.le_refl _))
      have hm1 : RMemAt wr rb base N mn mx bd lv f := HM.out.kept hk (fun e => by have e' : rb = g := e; have h3 := HG.out; omega) (fun q hq e => by have e' : q = g := e; have := HBL.out q hq; omega)
      have HR := Lib.hid (hr.congr (f := byteV (fun i => if i < j then v (y + i) else 0)) (g := byteV (fun i => v (y + i))) (fun i hi => by show Value.int .u8 (((if i < j then v (y + i) else 0) : UInt8).toNat : Int) = Value.int .u8 ((v (y + i)).toNat : Int); rw [if_pos hi]))
      have HM1 := Lib.hid hm1
      have HKW := Lib.hid hkw
      clear hr hk hm1 hkw HS HM
      go_wp2_with fail
      go_loopw [13] (fun i wx => ∃ q : Nat, i = .int .u64 (q : Int) ∧ q ≤ j ∧ PutRel w wx rb base N mn mx bd lv f a j (fun i => v (y + i)) g q) (fun i _ => j - (intOf i).toNat)
      case atStart => exact ⟨0, rfl, by omega, by rw [putF_none]; exact HM1.out, HKW.out.of0 _, HR.out⟩
      case round =>
        clear HM1 HKW HR
        obtain ⟨q, rfl, hq, hr⟩ := hrel
        by_cases hlt2 : q < j
        · obtain ⟨g2, cap, fr, hlv, hbg, hnc, hcm, hrow, hF, hQ⟩ := hr.mem.row (by omega)
          obtain ⟨k, hkk⟩ : ∃ k : Nat, k = a + q := ⟨_, rfl⟩
          have u3 : IntKind.u64.wrap ((a : Int) + (q : Int)) = (k : Int) := by rw [IntWalk.u64_in _ (by omega)]; omega
          have uj : IntKind.u64.wrap ((q : Int) + 1) = (q : Int) + 1 := IntWalk.u64_in _ (by omega)
          have hji : (q : Int) < (j : Int) := by omega
          have hkN : k < N := by omega
          have d3 := hr.mem.c3
          rw [hlv] at d3
          have b0 : wr.cell? ⟨g, q, none⟩ = some (.int .u8 ((v (y + q)).toNat : Int)) := hr.was.cell hlt2
          have z0 := hrow.frozen k
          have y0 : wr.cell? ⟨g2, k, none⟩ = some (fr k) := hrow.cell (by omega)
          have HP := Lib.hid (hr.mem.put1 hlv hbg hnc hcm hrow hF hQ k (v (y + q)))
          have HR := Lib.hid hr
          have HKK := Lib.hid hkk
          have HLV := Lib.hid hlv
          clear hr hrow hF hQ hkk hlv
          go_wp2_with fail
          go_still_tail 11, (by kernel_rfl)
          change wpList _ _ _ _ _ (World.drew _)
          go_wp2_with fail
          go_roundw
          case rel =>
            have hp := HP.out
            have hkk := HKK.out
            have hrr := HR.out
            refine ⟨q + 1, by go_num, by omega, ?_, (hrr.kept.trans hp.2).drew, World.rowIs.drew (hp.2.row hrr.was (fun e => by have := HBL.out g e; omega))⟩
            rw [putF_next, ← hkk]
            exact hp.1.kept0 (Kept.refl S0 _).drew
          case measure => simp [intOf]; omega
        · obtain rfl : q = j := by omega
          go_wp2_with fail
          go_ret
          exact ⟨rfl, hr.mem, hr.kept⟩
end
section
variable {w : World} {rb base N : Nat} {mn mx : Int} {bd : Bool} {lv : Value} {f : Nat → UInt8}

set_option maxHeartbeats 800000 in
theorem rgrow_no (k : Nat) (hm : RMemAt w rb base N mn mx bd lv f) (hN : N ≤ 1048576) (hk : k ≤ 4294967295) (h3 : 0 ≤ mx) (h4 : mx ≤ 4294967295) (hf : growB N k mx bd = false) :
    Calls Try.prog 42 #[.pointer (some ⟨rb, 0, none⟩), .int .u32 (k : Int)] w fun e w' => e = .returned (.int .u32 4294967295) ∧ w = w' := by
  obtain ⟨A, c, rfl, _, _, _⟩ := hm.own.out
  have c1 := hm.c1
  have c2 := hm.c2
  have c3 := hm.c3
  obtain ⟨P, hP⟩ : ∃ P : Nat, N / 65536 = P := ⟨_, rfl⟩
  unfold growB at hf
  rw [hP] at hf
  have eq0 : (N : Int) / 65536 = (P : Int) := by omega
  have e1 : IntKind.u64.wrap (P : Int) = (P : Int) := IntWalk.u64_in _ (by omega)
  have e2 : IntKind.u64.wrap (k : Int) = (k : Int) := IntWalk.u64_in _ (by omega)
  have e3 : IntKind.u64.wrap ((P : Int) + (k : Int)) = (P : Int) + (k : Int) := IntWalk.u64_in _ (by omega)
  have e4 : IntKind.u64.wrap mx = mx := IntWalk.u64_in _ (by omega)
  have hg2 : decide ((16 : Int) < (P : Int) + (k : Int)) = true ∨ (decide ((16 : Int) < (P : Int) + (k : Int)) = false ∧ bd = true ∧ decide (mx < (P : Int) + (k : Int)) = true) := by
    by_cases h : P + k ≤ 16
    · refine .inr ⟨decide_eq_false (by omega), ?_⟩
      rw [decide_eq_true h] at hf
      simp at hf
      exact ⟨hf.1, decide_eq_true (by omega)⟩
    · exact .inl (decide_eq_true (by omega))
  have HP := Lib.hid hP
  clear hm hP hf
  rcases hg2 with g1 | ⟨g1, rfl, g2⟩
  all_goals
    go_enter Try.func42, Try.ntmps42
    go_wp2_with fail
    go_ret
    exact ⟨rfl, rfl⟩

set_option maxHeartbeats 1600000 in
theorem rgrow_yes (P k : Nat) (hm : RMemAt w rb base (P * 65536) mn mx bd lv f) (hP16 : P ≤ 16) (hb : base ≤ w.heap.size) (hk : k ≤ 4294967295) (h3 : 0 ≤ mx) (h4 : mx ≤ 4294967295) (hf : growB (P * 65536) k mx bd = true) :
    Calls Try.prog 42 #[.pointer (some ⟨rb, 0, none⟩), .int .u32 (k : Int)] w fun e w' => e = .returned (.int .u32 (P : Int)) ∧ ∃ lj, RMemAt w' rb base ((P + k) * 65536) mn mx bd lj (moreF f (P * 65536)) ∧ Kept (ST rb lv) w w' ∧ (lj.ownBlock = lv.ownBlock ∨ ∃ g, lj.ownBlock = some g ∧ w.heap.size ≤ g) := by
  obtain ⟨A, c, hlv, _, _, _⟩ := hm.own.out
  have c1 := hm.c1
  have c2 := hm.c2
  have c3 := hm.c3
  rw [hlv] at c3
  unfold growB at hf
  rw [Nat.mul_div_cancel P (by omega : 0 < 65536)] at hf
  have hsum : P + k ≤ 16 := by
    by_cases h : P + k ≤ 16
    · exact h
    · rw [decide_eq_false h] at hf; simp at hf
  obtain ⟨N, hN⟩ : ∃ N : Nat, N = P * 65536 := ⟨_, rfl⟩
  obtain ⟨M, hM⟩ : ∃ M : Nat, M = k * 65536 := ⟨_, rfl⟩
  rw [← hN] at hm c3 hlv ⊢
  have eq0 : (N : Int) / 65536 = (P : Int) := by omega
  have e1 : IntKind.u64.wrap (P : Int) = (P : Int) := IntWalk.u64_in _ (by omega)
  have e2 : IntKind.u64.wrap (k : Int) = (k : Int) := IntWalk.u64_in _ (by omega)
  have e3 : IntKind.u64.wrap ((P : Int) + (k : Int)) = (P : Int) + (k : Int) := IntWalk.u64_in _ (by omega)
  have e4 : IntKind.u64.wrap mx = mx := IntWalk.u64_in _ (by omega)
  have e5 : IntKind.i64.wrap (k : Int) = (k : Int) := IntWalk.i64_in _ (by omega)
  have e6 : IntKind.i64.wrap (65536 * (k : Int)) = (M : Int) := by rw [IntWalk.i64_in _ (by omega)]; omega
  have e7 : IntKind.u32.wrap (P : Int) = (P : Int) := IntWalk.u32_in _ (by omega)
  have g1' : decide ((16 : Int) < (P : Int) + (k : Int)) = false := decide_eq_false (by omega)
  have hg2 : bd = false ∨ (bd = true ∧ decide (mx < (P : Int) + (k : Int)) = false) := by
    cases bd with
    | false => exact .inl rfl
    | true =>
      refine .inr ⟨rfl, decide_eq_false ?_⟩
      simp at hf
      omega
  obtain ⟨i, hi, hzz⟩ := Option.map_eq_some_iff.1 Try.info5
  simp only [Prod.mk.injEq] at hzz
  have hap := run_append_zeros (P := Try.prog) w base 36 3 36 5 i (.int .u8 0) .i64 .i64 Try.underlying36 Try.underlying3 hi hzz.1 hzz.2.1 hzz.2.2 rfl rfl IsByte ⟨0, rfl⟩ lv N (byteV f) hm.own M (by unfold maxLen; omega) (by omega) hb
  obtain ⟨v', w', hr, ho, hgr, hbl⟩ := hap
  rw [hlv] at hr
  obtain ⟨A', c', hv', _, _, _⟩ := ho.out
  have hB5 := hgr.block rb hm.obj.lt (fun e => hm.ne e.symm)
  have hB6 : Blk w' rb 66 _ := hB5.trans hm.obj
  have d3 := hB6.cell 3
  have d4 := hB6.frozen 3
  have hne2 := ho.ne_blk hB6 (by decide)
  have hfin : RMemAt (w'.setCell ⟨rb, 3, none⟩ v') rb base ((P + k) * 65536) mn mx bd v' (moreF f N) := by
    refine ⟨hB6.set_ 3 _, ?_, hm.lo⟩
    have h2 := ho.kept ((Kept.refl (S1 rb) w').setCell (p := ⟨rb, 3, none⟩) (.inl rfl) v') (fun g hg e => hne2 (by rw [hg]; exact congrArg some e))
    rw [show (P + k) * 65536 = N + M by omega]
    exact h2.congr (fun i hi => by
      unfold after byteV moreF
      by_cases e : i < N
      · rw [if_pos e, if_pos e]
      · rw [if_neg e, if_neg e]; rfl)
  have hkW : Kept (ST rb lv) w (w'.setCell ⟨rb, 3, none⟩ v') := (((Kept.refl (ST rb lv) w).grown hgr (fun g hg => .inl (.inr hg)))).setCell (p := ⟨rb, 3, none⟩) (.inl (.inl rfl)) _
  have HFIN := Lib.hid hfin
  have HKW := Lib.hid hkW
  have HBL := Lib.hid hbl
  have HM := Lib.hid hM
  have HN := Lib.hid hN
  have HR := Lib.hid hr
  subst hv'
  clear hm hf hN hM hlv hi hzz hr ho hgr hbl hB5 hB6 hne2 hfin hkW
  rcases hg2 with rfl | ⟨rfl, g2⟩
  all_goals
    go_enter Try.func42, Try.ntmps42
    go_wp2_with (at_builtin; refine Lib.wpList_append_run _ rfl (.tmp 41) (.tmp 44) 36 3 rfl _ _ rfl rfl _ _ HR.out ?_)
    go_wp2_with fail
    go_ret
    exact ⟨rfl, _, HFIN.out, HKW.out, HBL.out.imp id (fun h => ⟨_, h, Nat.le_refl _⟩)⟩

set_option maxHeartbeats 800000 in
theorem rsum_any (A : Option Addr) (n c : Nat) (v : Nat → UInt8) (hA : Sl w A n (byteV v)) (hn : n ≤ 9223372036854775806) :
    Calls Try.prog 26 #[.slice A n c] w fun e w' => e = .returned (.int .u64 (sumI v n)) ∧ w = w' := by
  obtain ⟨z, hz⟩ : ∃ z : Int, sumI v 0 = z := ⟨_, rfl⟩
  go_enter Try.func26, Try.ntmps26
  go_wp2_with fail
  go_loop [3, 4] (fun s i => ∃ k : Nat, k ≤ n ∧ i = .int .i64 (k : Int) ∧ s = .int .u64 (sumI v k)) (fun _ i => n - (intOf i).toNat)
  case atStart => exact ⟨0, by omega, rfl, rfl⟩
  case round =>
    obtain ⟨k, hk, rfl, rfl⟩ := hrel
    by_cases hlt : k < n
    · obtain ⟨b, o, hAe, hc⟩ := hA (by omega)
      subst hAe
      have db := hc k hlt
      unfold byteV at db
      obtain ⟨x, hx⟩ : ∃ x : Nat, x = (v k).toNat := ⟨_, rfl⟩
      rw [← hx] at db
      have hc255 : x < 256 := by rw [hx]; exact UInt8.toNat_lt _
      have ec : IntKind.u64.wrap (x : Int) = (x : Int) := IntWalk.u64_in _ (by omega)
      have st := Lib.hid (show sumI v (k + 1) = IntKind.u64.wrap (bits BinOp.xor IntKind.u64 (sumI v k) (x : Int) * 1099511628211) by rw [hx]; rfl)
      clear hx hz hA hc
      go_wp2
      go_round
      case rel => exact ⟨k + 1, by omega, by go_num, by rw [st.out]⟩
      case measure => simp [intOf]; omega
    · obtain rfl : k = n := by omega
      clear hA
      go_wp2
      go_ret
      exact ⟨rfl, rfl⟩
end
end Go.Proofs.Ytjkndigmoclnoaa
