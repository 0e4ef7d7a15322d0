/- The walk of the statement MemGrows. No condition. -/
import Derived.Test.YtjkndigmoclnoaaMemK
import Derived.Test.YtjkndigmoclnoaaMemB
import Derived.Test.YtjkndigmoclnoaaMemE
import Derived.Deep.DeepCutAuto
namespace Go.Proofs.Ytjkndigmoclnoaa
open Go.RowKit

set_option maxHeartbeats 800000 in
theorem grows_bad (mn mx : Int) (bd : Bool) (A : Option Addr) (n cp : Nat) (c : UInt8) (w : World) (h1 : 0 ≤ mn) (h2 : mn ≤ 4294967295) (h3 : 0 ≤ mx) (h4 : mx ≤ 4294967295) (hb : mayB mn mx bd 65536 = false ∨ 16 < mn) :
    Calls Try.prog 3 #[.agg #[.int .u32 mn, .int .u32 mx, .bool bd], .slice A n cp, .int .u8 (c.toNat : Int)] w fun e w' => e = .returned (.bool true) ∧ Kept S0 w w' := by
  have hk0 : Kept S0 w (w.alloc (.cells #[.int .u32 mn, .int .u32 mx, .bool bd] 24)) := (Kept.refl _ w).alloc _
  have hB := Blk.new w 24 #[.int .u32 mn, .int .u32 mx, .bool bd]
  have d0 := hB.cell 0
  have d1 := hB.cell 1
  have d2 := hB.cell 2
  by_cases hf : mayB mn mx bd 65536 = false
  · have HF := Lib.hid hf
    clear hf hb
    go_enter Try.func3, Try.ntmps3
    go_wp2_with fail
    refine (new_arg _ _ _ _ h1 h2 h3 h4 HF.out).mono ?_
    rintro e w1 ⟨rfl, hk1⟩
    go_wp2_with fail
    refine (lives_any _).mono ?_
    rintro e w2 ⟨rfl, hk2⟩
    go_wp2_with fail
    go_ret
    exact ⟨rfl, (hk0.then0 hk1).then0 hk2⟩
  · have HF := Lib.hid (show mayB mn mx bd 65536 = true by simpa using hf)
    have h16 := hb.resolve_left hf
    clear hf hb
    go_enter Try.func3, Try.ntmps3
    go_wp2_with fail
    refine (new_limit _ _ _ _ h16 h2 h3 h4 HF.out).mono ?_
    rintro e w1 ⟨rfl, hk1⟩
    go_wp2_with fail
    refine (lives_any _).mono ?_
    rintro e w2 ⟨rfl, hk2⟩
    go_wp2_with fail
    go_ret
    exact ⟨rfl, (hk0.then0 hk1).then0 hk2⟩

set_option maxHeartbeats 3200000 in
set_option maxRecDepth 100000 in
theorem grows_good (mn : Nat) (mx : Int) (bd : Bool) (A : Option Addr) (n cp : Nat) (xs : Nat → Int) (c : UInt8) (w : World) (h1 : mn ≤ 16) (h3 : 0 ≤ mx) (h4 : mx ≤ 4294967295) (hb : mayB mn mx bd 65536 = true)
    (hA : Sl w A n (fun i => .int .u32 (xs i))) (hn : n ≤ 140737488351232) (hx : ∀ i, i < n → 0 ≤ xs i ∧ xs i ≤ 4294967295) :
    Calls Try.prog 3 #[.agg #[.int .u32 (mn : Int), .int .u32 mx, .bool bd], .slice A n cp, .int .u8 (c.toNat : Int)] w fun e w' => e = .returned (.bool true) ∧ Kept S0 w w' := by
  have hk0 : Kept S0 w (w.alloc (.cells #[.int .u32 mn, .int .u32 mx, .bool bd] 24)) := (Kept.refl _ w).alloc _
  have hB := Blk.new w 24 #[.int .u32 mn, .int .u32 mx, .bool bd]
  have d0 := hB.cell 0
  have d1 := hB.cell 1
  have d2 := hB.cell 2
  have HF := Lib.hid hb
  have e1 : IntKind.u64.wrap (mn : Int) = (mn : Int) := IntWalk.u64_in _ (by omega)
  have e2 : IntKind.u64.wrap ((mn : Int) * 65536) = ((mn * 65536 : Nat) : Int) := by rw [IntWalk.u64_in _ (by omega)]; omega
  clear hb
  go_enter Try.func3, Try.ntmps3
  go_wp2_with fail
  refine (new_made _ _ _ _ h1 h3 h4 HF.out).mono ?_
  rintro e w1 ⟨pb, bb, rfl, hm, hp1, hp2, hk1⟩
  have f2 := (hk1.blk hB (fun x => x)).cell 2
  have f1 := (hk1.blk hB (fun x => x)).cell 1
  go_wp2_with fail
  refine (pages_made pb bb _ _ hm.c0 hm.c4 (by omega)).mono ?_
  rintro e w2 ⟨rfl, rfl⟩
  rw [Nat.mul_div_cancel mn (by omega : 0 < 65536)]
  have ec : ((mn * 65536 : Nat) : Int) = (mn : Int) * 65536 := by omega
  have hfl := fill_in 0 (mn * 65536) c hm (by omega) (by omega)
  rw [ec] at hfl
  clear ec
  go_wp2_with fail
  refine hfl.mono ?_
  rintro e w2 ⟨rfl, hm2, hk2⟩
  have hk3 : Kept S0 w w2 := (hk0.then0 hk1).trans_ hk2 (fun i hi => .inr (by cases hi; exact Nat.le_trans hk0.size hp2))
  have g2 := (hk2.blk (hk1.blk hB (fun x => x)) (fun e => by have := hB.lt; have : bb = w.heap.size := e.symm; omega)).cell 2
  have g1 := (hk2.blk (hk1.blk hB (fun x => x)) (fun e => by have := hB.lt; have : bb = w.heap.size := e.symm; omega)).cell 1
  obtain ⟨pg, hpg⟩ : ∃ pg : Nat → UInt8, pg = fillF zeroF 0 (mn * 65536) c := ⟨_, rfl⟩
  rw [← hpg] at hm2
  have hpg1 : ∀ i, i < mn * 65536 → pg i = c := fun i hi => by rw [hpg]; unfold fillF; rw [if_pos (by omega)]
  have hpg2 : ∀ i, mn * 65536 ≤ i → pg i = 0 := fun i hi => by rw [hpg]; unfold fillF; rw [if_neg (by omega)]; rfl
  have HG1 := Lib.hid hpg1
  have HG2 := Lib.hid hpg2
  obtain ⟨most, hmost⟩ : ∃ most : Nat, (most : Int) = if bd then (if mx < 16 then mx else 16) else 16 := by
    cases bd with
    | false => exact ⟨16, by simp⟩
    | true => by_cases h : mx < 16
              · exact ⟨mx.toNat, by simp [h]; omega⟩
              · exact ⟨16, by simp [h]⟩
  have hm16 : most ≤ 16 := by
    cases bd <;> simp at hmost <;> (try split at hmost) <;> omega
  have hgrow : ∀ P k, growB (P * 65536) k mx bd = decide (P + k ≤ most) := by
    intro P k
    unfold growB
    rw [Nat.mul_div_cancel P (by omega : 0 < 65536)]
    cases bd <;> simp at hmost ⊢
    · rw [show most = 16 by omega]
    · split at hmost <;> (rw [Bool.eq_iff_iff]; simp; omega)
  have HGR := Lib.hid hgrow
  have hmx : (bd = false ∧ most = 16) ∨ (bd = true ∧ (mx < 16 ∧ most = mx.toNat ∨ ¬ mx < 16 ∧ most = 16)) := by
    cases bd with
    | false => exact .inl ⟨rfl, by simp at hmost; omega⟩
    | true => refine .inr ⟨rfl, ?_⟩
              simp at hmost
              split at hmost
              · exact .inl ⟨by assumption, by omega⟩
              · exact .inr ⟨by assumption, by omega⟩
  clear hpg hpg1 hpg2 hmost hgrow hfl f1 f2 d0 d1 d2 hm hk1 hk2 hB
  go_upto_if 39 with (fail)
  go_cut [9] (fun s wx => s = .int .u64 (most : Int) ∧ wx = w2)
  case first =>
    have HX := Lib.hid hmx
    clear hmx
    have ex : IntKind.u64.wrap mx = mx := IntWalk.u64_in _ (by omega)
    rcases HX.out with ⟨rfl, h6⟩ | ⟨rfl, ⟨h5, h6⟩ | ⟨h5, h6⟩⟩
    · have H6 := Lib.hid h6
      clear h6
      go_wp2
      go_meet
      exact ⟨by rw [H6.out]; rfl, rfl⟩
    · have H6 := Lib.hid h6
      clear h6
      go_wp2
      go_meet
      exact ⟨by rw [H6.out, Int.toNat_of_nonneg h3], rfl⟩
    · have H6 := Lib.hid h6
      clear h6
      go_wp2
      go_meet
      exact ⟨by rw [H6.out]; rfl, rfl⟩
  case rest =>
    obtain ⟨rfl, rfl⟩ := hcut
    have hbb := Nat.le_trans hk0.size hp2
    have hpbw := Nat.le_trans hk0.size hp1
    clear e1 e2 g1 g2 hmx hk0 HF
    go_wp2_with fail
    refine (pages_made pb bb _ _ hm2.c0 hm2.c4 (by omega)).mono ?_
    rintro e w3 ⟨rfl, rfl⟩
    rw [Nat.mul_div_cancel mn (by omega : 0 < 65536)]
    go_wp2_with fail
    go_loopw [11] (fun i wr => ∃ k P b2 : Nat, k ≤ n ∧ k ≤ 20 ∧ i = .int .i64 (k : Int) ∧ mn ≤ P ∧ P ≤ 16 ∧ w.heap.size ≤ b2 ∧ MemAt wr pb b2 (P * 65536) mn mx bd pg ∧ Kept S0 w wr) (fun i _ => n - (intOf i).toNat)
    case atStart => exact ⟨0, mn, bb, by omega, by omega, rfl, Nat.le_refl _, h1, hbb, hm2, hk3⟩
    case round =>
      obtain ⟨k, P, b2, hkn, hk20, rfl, hmP, hP16, hb2, hmr, hkr⟩ := hrel
      by_cases hlt : k < n ∧ k < 20
      · obtain ⟨hlt, hlt2⟩ := hlt
        obtain ⟨ab, ao, rfl, hcell⟩ := hA (by omega)
        have hc := (hkr.cell (p := ⟨ab, ao + k, none⟩) (World.block_lt_of_cell? _ _ (hcell k hlt)) (fun x => x)).trans (hcell k hlt)
        have hcw := hcell k hlt
        clear hcell
        obtain ⟨hx0, hx1⟩ := hx k hlt
        obtain ⟨q, hq⟩ : ∃ q : Nat, xs k = (q : Int) := ⟨(xs k).toNat, by omega⟩
        rw [hq] at hx0 hx1
        simp only [hq] at hc
        clear hq
        have u1 : IntKind.u64.wrap (P : Int) = (P : Int) := IntWalk.u64_in _ (by omega)
        have u2 : IntKind.u64.wrap (q : Int) = (q : Int) := IntWalk.u64_in _ (by omega)
        have u3 : IntKind.u64.wrap ((P : Int) + (q : Int)) = (P : Int) + (q : Int) := IntWalk.u64_in _ (by omega)
        have pgs := pages_made pb b2 (P * 65536) wr hmr.c0 hmr.c4 (by omega)
        rw [Nat.mul_div_cancel P (by omega : 0 < 65536)] at pgs
        have PG := Lib.hid pgs
        clear pgs
        by_cases hg : P + q ≤ most
        · have hgr := grow_yes pb b2 P q mn mx bd pg wr hmr hP16 (by omega) h3 h4 (by rw [HGR.out]; exact decide_eq_true hg)
          have GR := Lib.hid hgr
          clear hgr
          have t1 : decide ((P : Int) + (q : Int) ≤ (most : Int)) = true := decide_eq_true (by omega)
          have t2 : decide ((most : Int) < (P : Int) + (q : Int)) = false := decide_eq_false (by omega)
          have u4 : IntKind.u64.wrap ((P + q : Nat) : Int) = (P : Int) + (q : Int) := by rw [IntWalk.u64_in _ (by omega)]; omega
          go_wp2_with fail
          refine PG.out.mono ?_
          rintro e w3 ⟨rfl, rfl⟩
          go_wp2_with fail
          refine GR.out.mono ?_
          rintro e w3 ⟨rfl, b3, hm3, hb3, hk4⟩
          have pgs := pages_made pb b3 ((P + q) * 65536) w3 hm3.c0 hm3.c4 (by omega)
          rw [Nat.mul_div_cancel (P + q) (by omega : 0 < 65536)] at pgs
          have PG2 := Lib.hid pgs
          clear pgs
          have hc3 := (hk4.cell (p := ⟨ab, ao + k, none⟩) (World.block_lt_of_cell? _ _ hc) (fun e => by have := hkr.size; have h9 := World.block_lt_of_cell? _ _ (show w.cell? ⟨ab, ao + k, none⟩ = some _ from hcw); have e' : ab = pb := e; simp only at h9; omega)).trans hc
          go_wp2_with fail
          refine PG2.out.mono ?_
          rintro e w4 ⟨rfl, rfl⟩
          go_wp2_with fail
          go_roundw
          case rel =>
            refine ⟨k + 1, P + q, b3, by omega, by omega, by go_num, by omega, by omega, Nat.le_trans hkr.size hb3, hm3.congr fun i _ => ?_, hkr.trans_ hk4 (fun i hi => .inr (by cases hi; exact hpbw))⟩
            unfold moreF
            split
            · rfl
            · exact (HG2.out i (by omega)).symm
          case measure => simp [intOf]; omega
        · have hgr := grow_no pb b2 (P * 65536) q mn mx bd pg wr hmr (by omega) (by omega) h3 h4 (by rw [HGR.out]; exact decide_eq_false hg)
          have GR := Lib.hid hgr
          clear hgr
          have t1 : decide ((P : Int) + (q : Int) ≤ (most : Int)) = false := decide_eq_false (by omega)
          have t2 : decide ((most : Int) < (P : Int) + (q : Int)) = true := decide_eq_true (by omega)
          have t3 : ((4294967295 : Int) == (P : Int)) = false := beq_eq_false_iff_ne.2 (by omega)
          go_wp2_with fail
          refine PG.out.mono ?_
          rintro e w3 ⟨rfl, rfl⟩
          go_wp2_with fail
          refine GR.out.mono ?_
          rintro e w3 ⟨rfl, rfl⟩
          go_wp2_with fail
          refine PG.out.mono ?_
          rintro e w4 ⟨rfl, rfl⟩
          go_wp2_with fail
          go_roundw
          case rel => exact ⟨k + 1, P, b2, by omega, by omega, by go_num, hmP, hP16, hb2, hmr, hkr⟩
          case measure => simp [intOf]; omega
      · have hex : n ≤ k ∨ (k < n ∧ 20 ≤ k) := by omega
        clear hlt
        have u1 : IntKind.i64.wrap (P : Int) = (P : Int) := IntWalk.i64_in _ (by omega)
        have pgs := pages_made pb b2 (P * 65536) wr hmr.c0 hmr.c4 (by omega)
        rw [Nat.mul_div_cancel P (by omega : 0 < 65536)] at pgs
        have PG := Lib.hid pgs
        obtain ⟨L, hL⟩ : ∃ L : Nat, L = P * 65536 := ⟨_, rfl⟩
        obtain ⟨M, hM⟩ : ∃ M : Nat, M = mn * 65536 := ⟨_, rfl⟩
        have hLs : L ≤ 1048576 := by omega
        have hMs : M ≤ 1048576 := by omega
        rw [← hL] at hmr
        have RD := Lib.hid (read_in 0 L hmr (by omega) (by omega))
        have v1 : IntKind.i64.wrap (mn : Int) = (mn : Int) := IntWalk.i64_in _ (by omega)
        have v2 : IntKind.i64.wrap ((mn : Int) * 65536) = (M : Int) := by rw [IntWalk.i64_in _ (by omega)]; omega
        have u2 : IntKind.i64.wrap ((P : Int) * 65536) = (L : Int) := by rw [IntWalk.i64_in _ (by omega)]; omega
        have G1 := Lib.hid (show ∀ i, i < M → pg i = c by rw [hM]; exact HG1.out)
        have G2 := Lib.hid (show ∀ i, M ≤ i → pg i = 0 by rw [hM]; exact HG2.out)
        clear pgs hx hA hL hM HG1 HG2
        rcases hex with t | ⟨t, t'⟩
        all_goals
          go_wp2_with fail
          refine PG.out.mono ?_
          rintro e w3 ⟨rfl, rfl⟩
          go_wp2_with fail
          refine RD.out.mono ?_
          rintro e w3 ⟨g, cap, rfl, hown, hk4⟩
          have hkr3 := hkr.then0 hk4
          obtain ⟨Z, cz, ez, hz1, hz2, hsl⟩ := hown.out
          obtain ⟨rfl, rfl⟩ : some (⟨g, 0, none⟩ : Addr) = Z ∧ cap = cz := by
            simp only [Value.slice.injEq] at ez
            exact ⟨ez.1, ez.2.2⟩
          have HS := Lib.hid hsl
          clear hown ez hsl hz1 hz2 hk4 hmr hkr
          go_wp2_with fail
          go_loop [17] (fun i => ∃ j : Nat, j ≤ L ∧ i = .int .i64 (j : Int)) (fun i => L - (intOf i).toNat)
          case atStart => exact ⟨0, by omega, rfl⟩
          case round =>
            obtain ⟨j, hj, rfl⟩ := hrel
            by_cases hjl : j < L
            · obtain ⟨sb, so, es, hsc⟩ := HS.out (by omega)
              obtain ⟨rfl, rfl⟩ : g = sb ∧ 0 = so := by
                simp only [Option.some.injEq, Addr.mk.injEq] at es
                exact ⟨es.1, es.2.1⟩
              have db := hsc j (by omega)
              rw [Nat.zero_add] at db
              simp only [byteV, Nat.zero_add] at db
              clear hsc es
              by_cases hjm : j < M
              · have hv := G1.out j hjm
                rw [hv] at db
                clear hv
                go_wp2_with fail
                go_round
                case rel => exact ⟨j + 1, by omega, by go_num⟩
                case measure => simp [intOf]; omega
              · have hv := G2.out j (by omega)
                rw [hv] at db
                clear hv
                go_wp2_with fail
                go_round
                case rel => exact ⟨j + 1, by omega, by go_num⟩
                case measure => simp [intOf]; omega
            · obtain rfl : j = L := by omega
              go_wp2_with fail
              refine (lives_any _).mono ?_
              rintro e w4 ⟨rfl, hk5⟩
              go_wp2_with fail
              go_ret
              exact ⟨rfl, hkr3.then0 hk5⟩
end Go.Proofs.Ytjkndigmoclnoaa
