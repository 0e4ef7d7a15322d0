/- The walk of the statement TabGrows. No condition. -/
import Derived.Test.YtpeekldngelkkaaTabK
import Derived.Deep.DeepCutAuto
namespace Go.Proofs.Ytpeekldngelkkaa
open Go.RowKit

theorem growB_off (N k : Nat) : growB N k 0 false = decide (N + k ≤ 16384) := by simp [growB]
theorem growB_on (N k mx : Nat) : growB N k (mx : Int) true = decide (N + k ≤ min 16384 mx) := by unfold growB; rw [Bool.eq_iff_iff]; simp; omega

theorem afterV_at (n : Nat) (f : Nat → V3) (x : V3) : afterV n f (fun _ => x) n = x := by unfold afterV; rw [if_neg (by omega)]

structure LimAt (w wx : World) (n : Nat) (mx : Int) (bd : Bool) (top : Nat) : Prop where
  blk : Blk wx w.heap.size 35 #[.int .u32 (n : Int), .int .u32 mx, .bool bd]
  kept : Kept S0 w wx
  lo : 0 ≤ mx
  hi : mx ≤ 4294967295
  may : mayTabB 111 (n : Int) mx bd = true
  hit : top ≤ 16384
  grow : ∀ N k, growB N k mx bd = decide (N + k ≤ top)
  le : n ≤ top

structure GrowsRel (w wr : World) (tb P : Nat) (mn mx : Int) (bd : Bool) : Prop where
  tab : ∃ lv f, TabAt wr tb w.heap.size P 111 mn mx bd lv f
  kept : Kept S0 w wr

set_option maxHeartbeats 8000000 in
set_option maxRecDepth 100000 in
theorem grows_any (n most : Nat) (bound : Bool) (A : Option Addr) (m cp : Nat) (xs : Nat → Int) (w : World) (hn : n ≤ 255) (hmost : most ≤ 65535)
    (hA : Sl w A m (fun i => .int .u32 (xs i))) (hm : m ≤ 140737488351232) (hx : ∀ i, i < m → 0 ≤ xs i ∧ xs i ≤ 4294967295) :
    Calls Try.prog 4 #[.int .u8 (n : Int), .bool bound, .int .u16 (most : Int), .slice A m cp] w fun e w' => e = .returned (.bool true) ∧ Kept S0 w w' := by
  have u0 : IntKind.u32.wrap (n : Int) = (n : Int) := IntWalk.u32_in _ (by omega)
  have u1 : IntKind.u32.wrap (most : Int) = (most : Int) := IntWalk.u32_in _ (by omega)
  have u2 : IntKind.u64.wrap (n : Int) = (n : Int) := IntWalk.u64_in _ (by omega)
  have u3 : IntKind.u64.wrap (most : Int) = (most : Int) := IntWalk.u64_in _ (by omega)
  have HX := Lib.hid hx
  have HA := Lib.hid hA
  clear hx hA
  go_enter Try.func4, Try.ntmps4
  go_upto_if 24 with (fail)
  go_cut [10] (fun s wx => ∃ mx bd, ∃ top : Nat, s = .int .u64 (top : Int) ∧ LimAt w wx n mx bd top)
  case first =>
    have hB := Blk.new w 35 #[.int .u32 (n : Int), .int .u32 0, .bool false]
    cases bound with
    | false =>
      have HL := Lib.hid (show LimAt w (w.alloc (.cells #[.int .u32 (n : Int), .int .u32 0, .bool false] 35)) n 0 false 16384 from
        ⟨hB, (Kept.refl S0 w).alloc _, by omega, by omega, by simp [mayTabB, isRefB, mayB]; omega, by omega, growB_off, by omega⟩)
      clear hB
      go_wp2
      go_meet
      exact ⟨0, false, 16384, rfl, HL.out⟩
    | true =>
      have hmay : ∀ mx : Nat, n ≤ mx → mx ≤ 65535 → mayTabB 111 (n : Int) (mx : Int) true = true := fun mx h1 h2 => by simp [mayTabB, isRefB, mayB]; omega
      have hL : ∀ mx : Nat, n ≤ mx → mx ≤ 65535 → LimAt w (w.alloc (.cells #[.int .u32 (n : Int), .int .u32 (mx : Int), .bool true] 35)) n (mx : Int) true (min 16384 mx) := fun mx h1 h2 =>
        ⟨Blk.new w 35 #[.int .u32 (n : Int), .int .u32 (mx : Int), .bool true], (Kept.refl S0 w).alloc _, by omega, by omega, hmay mx h1 h2, by omega, fun N k => growB_on N k mx, by omega⟩
      have HL := Lib.hid hL
      clear hmay hL hB
      by_cases h1 : most < n
      · have h2 : (n : Int) < 16384 := by omega
        have h3 : min 16384 n = n := by omega
        have h4 := Lib.hid h3
        clear h3
        go_wp2
        go_meet
        exact ⟨(n : Int), true, min 16384 n, by rw [h4.out], HL.out n (Nat.le_refl n) (by omega)⟩
      · have h1' : n ≤ most := by omega
        by_cases h2 : most < 16384
        · have h4 := Lib.hid (show min 16384 most = most by omega)
          go_wp2
          go_meet
          exact ⟨(most : Int), true, min 16384 most, by rw [h4.out], HL.out most h1' hmost⟩
        · have h4 := Lib.hid (show min 16384 most = 16384 by omega)
          go_wp2
          go_meet
          exact ⟨(most : Int), true, min 16384 most, by rw [h4.out]; rfl, HL.out most h1' hmost⟩
  case rest =>
    obtain ⟨mx, bd, top, rfl, hl⟩ := hcut
    have d0 := hl.blk.cell 0
    have d1 := hl.blk.cell 1
    have d2 := hl.blk.cell 2
    have HL := Lib.hid hl
    clear hl u0 u1 u3
    go_wp2_with fail
    refine (newtab_made 111 mx n bd ⟨111, 0, 0⟩ _ (by omega) HL.out.lo HL.out.hi HL.out.may rfl).mono ?_
    rintro e w2 ⟨tb, lv, rfl, ht, hk2⟩
    have HR := Lib.hid (show GrowsRel w w2 tb n n mx bd from ⟨⟨lv, _, ⟨ht.obj, ht.own.mono HL.out.kept.size, Nat.le_trans HL.out.kept.size ht.lo⟩⟩, HL.out.kept.then0 hk2⟩)
    clear ht hk2 d0 d1 d2
    go_wp2_with fail
    go_loopw [14, 13] (fun i s wr => ∃ k P : Nat, k ≤ m ∧ k ≤ 20 ∧ i = .int .i64 (k : Int) ∧ s = .int .u64 (P : Int) ∧ P ≤ top ∧ GrowsRel w wr tb P n mx bd) (fun i _ _ => m - (intOf i).toNat)
    case atStart => exact ⟨0, n, by omega, by omega, rfl, rfl, HL.out.le, HR.out⟩
    case round =>
      clear HR
      obtain ⟨k, P, hkm, hk20, rfl, rfl, hPt, hr⟩ := hrel
      have htop := HL.out.hit
      by_cases hlt : k < m ∧ k < 20
      · obtain ⟨hlt, hlt2⟩ := hlt
        obtain ⟨ab, ao, rfl, hcell⟩ := HA.out (by omega)
        have hcw := hcell k hlt
        have hc := (hr.kept.cell (p := ⟨ab, ao + k, none⟩) (World.block_lt_of_cell? _ _ hcw) (fun x => x)).trans hcw
        obtain ⟨hx0, hx1⟩ := HX.out k hlt
        obtain ⟨q, hq⟩ : ∃ q : Nat, xs k = (q : Int) := ⟨(xs k).toNat, by omega⟩
        rw [hq] at hx0 hx1
        simp only [hq] at hc
        clear hcell hcw hq
        obtain ⟨lv, f, ht⟩ := hr.tab
        have hkr := hr.kept
        have p1 : IntKind.i64.wrap ((k : Int) + 1) = (k : Int) + 1 := IntWalk.i64_in _ (by omega)
        have p2 : IntKind.u64.wrap ((k : Int) + 1) = (k : Int) + 1 := IntWalk.u64_in _ (by omega)
        have p3 : IntKind.u64.wrap (q : Int) = (q : Int) := IntWalk.u64_in _ (by omega)
        have p4 : IntKind.u64.wrap ((P : Int) + (q : Int)) = (P : Int) + (q : Int) := IntWalk.u64_in _ (by omega)
        have p5 : IntKind.u32.wrap (P : Int) = (P : Int) := IntWalk.u32_in _ (by omega)
        have p6 : IntKind.u64.wrap (P : Int) = (P : Int) := IntWalk.u64_in _ (by omega)
        have hbx := Blk.new wr 43 #[.int .u8 111, .int .u64 ((k : Int) + 1), .int .u64 0]
        have hka : Kept S0 wr (wr.alloc (.cells #[.int .u8 111, .int .u64 ((k : Int) + 1), .int .u64 0] 43)) := (Kept.refl S0 wr).alloc _
        have hbx0 : (wr.alloc (.cells #[.int .u8 111, .int .u64 ((k : Int) + 1), .int .u64 0] 43)).cell? ⟨wr.heap.size, 0, none⟩ = some (.int .u8 111) := hbx.cell 0
        have hbx1 : (wr.alloc (.cells #[.int .u8 111, .int .u64 ((k : Int) + 1), .int .u64 0] 43)).cell? ⟨wr.heap.size, 1, none⟩ = some (.int .u64 ((k : Int) + 1)) := hbx.cell 1
        have hbx2 : (wr.alloc (.cells #[.int .u8 111, .int .u64 ((k : Int) + 1), .int .u64 0] 43)).cell? ⟨wr.heap.size, 2, none⟩ = some (.int .u64 0) := hbx.cell 2
        have ht1 := ht.kept0 hka
        have hc1 := (hka.cell (p := ⟨ab, ao + k, none⟩) (World.block_lt_of_cell? _ _ hc) (fun x => x)).trans hc
        have hfit : fitB 111 ((k : Int) + 1) 0 111 = true := by simp [fitB, refB]; omega
        by_cases hg : P + q ≤ top
        · have GR := Lib.hid (grow_yes q ⟨111, (k : Int) + 1, 0⟩ ht1 (by omega) (by omega) HL.out.lo HL.out.hi (.inr rfl) hfit (by rw [HL.out.grow]; exact decide_eq_true hg) (Nat.le_trans hkr.size hka.size))
          have HT := Lib.hid ht
          have HT1 := Lib.hid ht1
          have HK := Lib.hid hkr
          have HKA := Lib.hid hka
          have HBX := Lib.hid hbx
          clear ht ht1 hfit hr hkr hka hbx
          go_wp2_with fail
          refine GR.out.mono ?_
          rintro e w3 ⟨rfl, lj, hm3, hk3, _⟩
          have hbx3 := hk3.blk HBX.out (fun h => h.elim (fun e => by have := HT.out.obj.lt; omega) (fun e => by have := (HT.out.own.lt _ e).2; omega))
          have hkk3 : Kept S0 w w3 := (HK.out.then0 HKA.out).trans_ hk3 (fun i hi => .inr (hi.elim (fun e => e ▸ HT.out.lo) (fun e => (HT.out.own.lt _ e).1)))
          have p7 : IntKind.u64.wrap (P : Int) = (P : Int) := p6
          clear GR hk3 hbx0 hbx1 hbx2
          by_cases hq0 : 0 < q
          · have hget : Calls Try.prog 16 #[.pointer (some ⟨tb, 0, none⟩), .int .u32 (P : Int)] w3 fun e w' => e = .returned (.tuple #[.agg #[.int .u8 111, .int .u64 ((k : Int) + 1), .int .u64 0], .int .i64 0]) ∧ Kept S0 w3 w' := by
              have h := get_in P hm3 (by omega) (by omega)
              rw [afterV_at] at h
              exact h
            have GET := Lib.hid hget
            clear hget
            go_wp2_with fail
            refine GET.out.mono ?_
            rintro e w4 ⟨rfl, hk4⟩
            have hk5 := hk4.alloc (.cells #[.int .u8 111, .int .u64 ((k : Int) + 1), .int .u64 0] 43)
            have hbu := Blk.new w4 43 #[.int .u8 111, .int .u64 ((k : Int) + 1), .int .u64 0]
            have hbv := hk5.blk hbx3 (fun x => x)
            have hm5 := hm3.kept0 hk5
            have hkk5 := hkk3.then0 hk5
            have b0 := hbu.cell 0
            have b1 := hbu.cell 1
            have b2 := hbu.cell 2
            have v0 := hbv.cell 0
            have v1 := hbv.cell 1
            have v2 := hbv.cell 2
            obtain ⟨A5, c5, hlv5, _, _, _⟩ := hm5.own.out
            subst hlv5
            have HR5 := Lib.hid (show GrowsRel w _ tb (P + q) n mx bd from ⟨⟨_, _, hm5⟩, hkk5⟩)
            have SZ := Lib.hid (size_made tb _ A5 (P + q) c5 hm5.c0 hm5.c5 (by omega))
            have p8 : ((P + q : Nat) : Int) = (P : Int) + (q : Int) := by omega
            rw [p8] at SZ
            clear hbu hbv hm3 hm5 hkk3 hkk5 hk4 hk5 hbx3 p8
            go_wp2_with fail
            refine SZ.out.mono ?_
            rintro e w6 ⟨rfl, rfl⟩
            go_wp2_with fail
            go_roundw
            case rel => exact ⟨k + 1, P + q, by omega, by omega, by go_num, by go_num, hg, HR5.out⟩
            case measure => simp [intOf]; omega
          · obtain rfl : q = 0 := by omega
            have GET := Lib.hid (get_out P hm3 (by omega) (by omega) (by omega))
            go_wp2_with fail
            refine GET.out.mono ?_
            rintro e w4 ⟨rfl, hk4⟩
            have hk5 := hk4.alloc (.cells #[.int .u8 0, .int .u64 0, .int .u64 0] 43)
            have hm5 := hm3.kept0 hk5
            have hkk5 := hkk3.then0 hk5
            obtain ⟨A5, c5, hlv5, _, _, _⟩ := hm5.own.out
            subst hlv5
            have HR5 := Lib.hid (show GrowsRel w _ tb (P + 0) n mx bd from ⟨⟨_, _, hm5⟩, hkk5⟩)
            have SZ := Lib.hid (size_made tb _ A5 (P + 0) c5 hm5.c0 hm5.c5 (by omega))
            rw [Nat.add_zero] at SZ
            clear hm3 hm5 hkk3 hkk5 hk4 hk5 hbx3
            go_wp2_with fail
            refine SZ.out.mono ?_
            rintro e w6 ⟨rfl, rfl⟩
            go_wp2_with fail
            go_roundw
            case rel => exact ⟨k + 1, P + 0, by omega, by omega, by go_num, by go_num, hg, HR5.out⟩
            case measure => simp [intOf]; omega
        · have GR := Lib.hid (grow_no q ⟨111, (k : Int) + 1, 0⟩ ht1 (by omega) (by omega) HL.out.lo HL.out.hi (.inr rfl) hfit (by rw [HL.out.grow]; exact decide_eq_false hg))
          have HT1 := Lib.hid ht1
          have HK := Lib.hid hkr
          have HKA := Lib.hid hka
          clear ht ht1 hfit hr hkr hka hbx
          go_wp2_with fail
          refine GR.out.mono ?_
          rintro e w3 ⟨rfl, hk3⟩
          have ht3 := HT1.out.kept0 hk3
          obtain ⟨A3, c3, hlv3, _, _, _⟩ := ht3.own.out
          subst hlv3
          have SZ := Lib.hid (size_made tb w3 A3 P c3 ht3.c0 ht3.c5 (by omega))
          have HR3 := Lib.hid (show GrowsRel w w3 tb P n mx bd from ⟨⟨_, f, ht3⟩, (HK.out.then0 HKA.out).then0 hk3⟩)
          clear ht3 hbx0 hbx1 hbx2
          go_wp2_with fail
          refine SZ.out.mono ?_
          rintro e w4 ⟨rfl, rfl⟩
          go_wp2_with fail
          go_roundw
          case rel => exact ⟨k + 1, P, by omega, by omega, by go_num, rfl, hPt, HR3.out⟩
          case measure => simp [intOf]; omega
      · have hex : m ≤ k ∨ (k < m ∧ 20 ≤ k) := by omega
        clear hlt
        obtain ⟨lv, f, ht⟩ := hr.tab
        have hkr := hr.kept
        have AL := Lib.hid (all_made ht (by omega))
        have p1 : IntKind.i64.wrap (P : Int) = (P : Int) := IntWalk.i64_in _ (by omega)
        clear ht hr
        rcases hex with t | ⟨t, t'⟩
        all_goals
          go_wp2_with fail
          refine AL.out.mono ?_
          rintro e w3 ⟨v3, rfl, ho, hk3⟩
          obtain ⟨A3, c3, rfl, _, _, _⟩ := ho.out
          go_wp2_with fail
          refine (lives_any _).mono ?_
          rintro e w4 ⟨rfl, hk4⟩
          go_wp2_with fail
          go_ret
          exact ⟨rfl, (hkr.then0 hk3).then0 hk4⟩
end Go.Proofs.Ytpeekldngelkkaa
