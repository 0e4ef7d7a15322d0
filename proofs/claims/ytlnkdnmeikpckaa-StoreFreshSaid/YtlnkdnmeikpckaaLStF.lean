/- The walk of the statement StoreFresh. No condition. -/
import Derived.Test.YtlnkdnmeikpckaaStP
import Derived.Deep.DeepCutAuto
namespace Go.Proofs.Ytlnkdnmeikpckaa
open Go.RowKit

/-- What is there behind AddFunc. -/
structure FA (w0 w : World) (sb M : Nat) (e1 : Int) (P R : Option Addr) (np pc nr rc : Nat) (pv rv : Nat → UInt8) (nl : Nat) (lv : Nat → V3) (nb : Nat) (bv : Nat → UInt8) (p k c : Value) : Prop where
  k0 : Kept S0 w0 w
  sb1 : w0.heap.size < sb
  sbM : sb < M
  Mw : M ≤ w.heap.size
  box : Blk w w0.heap.size 24 #[.slice P np pc, .slice R nr rc]
  p : OwnB w (sb + 1) M 37 1 IsByte p np (byteV pv)
  k : OwnB w (sb + 1) M 40 3 AnyV k nl (vcell lv)
  c : OwnB w (sb + 1) M 5 1 IsByte c nb (byteV bv)
  is : ∃ fl, Blk w sb 95 (stCells fl (.slice none 0 0) (.slice none 0 0) (.slice none 0 0) (.slice none 0 0) (.slice none 0 0) (.slice none 0 0)) ∧ FuncK w M w.heap.size fl e1 np pv nr rv

/-- What is there behind AddElem. -/
structure FE (w0 w : World) (sb M : Nat) (e1 e2 : Int) (P R : Option Addr) (np pc nr rc : Nat) (pv rv : Nat → UInt8) (nl : Nat) (lv : Nat → V3) (nb : Nat) (bv : Nat → UInt8) (p k c : Value) : Prop where
  k0 : Kept S0 w0 w
  sb1 : w0.heap.size < sb
  sbM : sb < M
  Mw : M ≤ w.heap.size
  box : Blk w w0.heap.size 24 #[.slice P np pc, .slice R nr rc]
  p : OwnB w (sb + 1) M 37 1 IsByte p np (byteV pv)
  k : OwnB w (sb + 1) M 40 3 AnyV k nl (vcell lv)
  c : OwnB w (sb + 1) M 5 1 IsByte c nb (byteV bv)
  is : ∃ fl el, Blk w sb 95 (stCells fl (.slice none 0 0) (.slice none 0 0) (.slice none 0 0) el (.slice none 0 0) (.slice none 0 0)) ∧ FuncK w M w.heap.size fl e1 np pv nr rv ∧ ElemK w M w.heap.size el e2 nl lv

set_option maxRecDepth 100000 in
set_option maxHeartbeats 6400000 in
theorem fresh_any (P R L Bb : Option Addr) (np pc nr rc nl cl nb cb : Nat) (pv rv : Nat → UInt8) (lv : Nat → V3) (bv : Nat → UInt8) (w : World) (hP : TSl w P np pc pv) (hR : TSl w R nr rc rv) (hL : LSl w 3 24 L nl cl (vcell lv)) (hY : LSl w 1 1 Bb nb cb (byteV bv)) :
    Calls Try.prog 3 #[.agg #[.slice P np pc, .slice R nr rc], .slice L nl cl, .slice Bb nb cb] w fun e w' => e = .returned (.bool true) ∧ Kept S0 w w' := by
  have hk0 : Kept S0 w (w.alloc (.cells #[.slice P np pc, .slice R nr rc] 24)) := (Kept.refl S0 w).alloc _
  have hsz0 : (w.alloc (.cells #[.slice P np pc, .slice R nr rc] 24)).heap.size = w.heap.size + 1 := by simp
  have HX0 := Lib.hid (Blk.new w 24 #[.slice P np pc, .slice R nr rc])
  have HK0 := Lib.hid hk0
  have HP := Lib.hid hP
  have HR := Lib.hid hR
  have HL := Lib.hid hL
  have HY := Lib.hid hY
  clear hk0 hP hR hL hY
  go_enter Try.func3, Try.ntmps3
  go_wp2_with fail
  have hn := news_any (w.alloc (.cells #[.slice P np pc, .slice R nr rc] 24))
  generalize w.alloc (.cells #[.slice P np pc, .slice R nr rc] 24) = w1 at *
  refine hn.mono ?_
  clear hn
  rintro e w2 ⟨rfl, hb, hk, hsz⟩
  generalize hsb : w1.heap.size = sb at *
  have HSB := Lib.hid hsz0
  have x0 : w2.cell? ⟨w.heap.size, 0, none⟩ = some (.slice P np pc) := (hk.blk HX0.out (fun x => x)).cell 0
  have HX2 := Lib.hid (hk.blk HX0.out (fun x => x))
  have HK2 := Lib.hid (HK0.out.then0 hk)
  have HS2 := Lib.hid hsz
  have HB2 := Lib.hid hb
  clear hk hb hsz hsz0 HK0 HX0
  go_wp2_with fail
  refine (copy_t P np pc pv w2 (by rw [Nat.mul_one]; exact (HP.out.kept HK2.out).sl) (fun h => (HP.out.z h).1) (by have := HP.out.sz; omega)).mono ?_
  rintro e w3 ⟨p, rfl, hp, hk3⟩
  obtain ⟨pA, pcc, hpe, _, _, _⟩ := hp.out
  subst hpe
  have HPP := Lib.hid hp
  have HK3 := Lib.hid hk3
  clear hp hk3 x0
  go_wp2_with fail
  have hl3 := HL.out.kept (HK2.out.then0 HK3.out)
  refine (copy_v L nl cl lv w3 hl3.sl (fun h => (hl3.z h).1) hl3.sm).mono ?_
  rintro e w4 ⟨k, rfl, hkk, hk4⟩
  obtain ⟨kA, kc, hke, _, _, _⟩ := hkk.out
  subst hke
  have HKL := Lib.hid hkk
  have HK4 := Lib.hid hk4
  clear hkk hk4 hl3
  go_wp2_with fail
  have hl4 := HY.out.kept ((HK2.out.then0 HK3.out).then0 HK4.out)
  refine (copy_b Bb nb cb bv w4 hl4.sl (fun h => (hl4.z h).1) hl4.sm).mono ?_
  rintro e w5 ⟨c, rfl, hc, hk5⟩
  obtain ⟨cA, cc, hce, _, _, _⟩ := hc.out
  subst hce
  have HC := Lib.hid hc
  have HK5 := Lib.hid hk5
  clear hc hk5 hl4
  go_upto_region 5 with (fail)
  obtain ⟨M, hM⟩ : ∃ M, w5.heap.size = M := ⟨_, rfl⟩
  have hk35 := HK4.out.then0 HK5.out
  have hk25 := HK3.out.then0 hk35
  have hsz3 := HK3.out.size
  have hsz4 := HK4.out.size
  have hsz5 := HK5.out.size
  have HF5 := Lib.hid (show Kept S0 w w5 ∧ w.heap.size < sb ∧ sb < M ∧ Blk w5 w.heap.size 24 #[.slice P np pc, .slice R nr rc] ∧ OwnB w5 (sb + 1) M 37 1 IsByte (.slice pA np pcc) np (byteV pv) ∧ OwnB w5 (sb + 1) M 40 3 AnyV (.slice kA nl kc) nl (vcell lv) ∧ OwnB w5 (sb + 1) M 5 1 IsByte (.slice cA nb cc) nb (byteV bv) ∧ Blk w5 sb 95 (stCells (.slice none 0 0) (.slice none 0 0) (.slice none 0 0) (.slice none 0 0) (.slice none 0 0) (.slice none 0 0) (.slice none 0 0)) from by
    have h2 := HS2.out
    have h1 := HSB.out
    refine ⟨HK2.out.then0 hk25, by omega, by omega, hk25.blk HX2.out (fun x => x), ⟨(HPP.out.kept hk35 (fun _ _ x => x)).mono (by omega), fun g hg => ?_⟩, ⟨(HKL.out.kept HK5.out (fun _ _ x => x)).mono (by omega), fun g hg => ?_⟩, ⟨HC.out.mono (by omega), fun g hg => ?_⟩, hk25.blk HB2.out (fun x => x)⟩
    · have := (HPP.out.lt g hg).2; omega
    · have := (HKL.out.lt g hg).2; omega
    · have := (HC.out.lt g hg).2; omega)
  have x1 : w5.cell? ⟨w.heap.size, 1, none⟩ = some (.slice R nr rc) := HF5.out.2.2.2.1.cell 1
  have HM := Lib.hid hM
  clear hk35 hk25 hsz3 hsz4 hsz5 HPP HKL HC HK3 HK4 HK5 HX2 HK2 HB2 HS2 HSB hM hsb
  go_cut [11, 12] (fun t11 t12 wx => ∃ e1 : Int, t11 = .int .i64 0 ∧ t12 = .int .i64 e1 ∧ FA w wx sb M e1 P R np pc nr rc pv rv nl lv nb bv (.slice pA np pcc) (.slice kA nl kc) (.slice cA nb cc))
  case first =>
    have hmM := HM.out
    obtain ⟨f1, f2, f3, f4, f5, f6, f7, f8⟩ := HF5.out
    have hp5 := tsl_own (A := pA) (n := np) (c := pcc) f5.own (by have := HP.out.sz; omega)
    have hr5 := HR.out.kept f1
    have hFA : ∀ (e1 : Int) (w6 : World) (fl : Value), Kept (ST sb (.slice none 0 0)) w5 w6 → Blk w6 sb 95 (stCells fl (.slice none 0 0) (.slice none 0 0) (.slice none 0 0) (.slice none 0 0) (.slice none 0 0) (.slice none 0 0)) → FuncK w6 M w6.heap.size fl e1 np pv nr rv → FA w w6 sb M e1 P R np pc nr rc pv rv nl lv nb bv (.slice pA np pcc) (.slice kA nl kc) (.slice cA nb cc) := fun e1 w6 fl hk hb hf => by
      have hS : ∀ i, ST sb (.slice none 0 0) i → i = sb := fun i e => by
        rcases e with e | e
        · exact e
        · cases e
      have hS2 : ∀ i, ST sb (.slice none 0 0) i → i < sb + 1 ∨ M ≤ i := fun i e => .inl (by have := hS i e; omega)
      exact ⟨f1.trans_ hk (fun i e => .inr (by have := hS i e; omega)), f2, f3, by have := hk.size; omega, hk.blk f4 (fun e => by have := hS _ e; omega), f5.kept hk hS2, f6.kept hk hS2, f7.kept hk hS2, fl, hb, hf⟩
    have HFA := Lib.hid hFA
    by_cases hbad : badT pv np = true ∨ badT rv nr = true
    · have hc := addfunc_bad pA R np pcc nr rc pv rv false { data := #[] } 0 0 f8 (Own.nil _ M _ _ _ (fun _ => undef)) (by omega) hp5 hr5 hbad
      have HO := Lib.hid f8
      clear f1 f2 f3 f4 f5 f6 f7 f8 hp5 hr5 hFA hbad
      go_wp2_with fail
      refine hc.mono ?_
      clear hc
      rintro e w6 ⟨rfl, hk⟩
      have HFIN := Lib.hid (HFA.out 2 w6 _ (hk.of0 _) (hk.blk HO.out (fun x => x)) ⟨0, fun _ => undef, ⟨Own.nil _ _ _ _ _ _, fun g hg => by cases hg⟩, .inr ⟨rfl, rfl⟩⟩)
      clear hk
      go_wp2_with fail
      go_meet
      exact ⟨2, rfl, rfl, HFIN.out⟩
    · have hb1 : badT pv np = false := by simpa using fun h => hbad (.inl h)
      have hb2 : badT rv nr = false := by simpa using fun h => hbad (.inr h)
      have hc := addfunc_ok pA R np pcc nr rc pv rv false { data := #[] } 0 0 f8 (Own.nil _ M _ _ _ (fun _ => undef)) (by omega) (by omega) hp5 hr5 hb1 hb2
      clear f1 f2 f3 f4 f5 f6 f7 f8 hp5 hr5 hFA hbad hb1 hb2
      go_wp2_with fail
      refine hc.mono ?_
      clear hc
      rintro e w6 ⟨rfl, had⟩
      obtain ⟨⟨fl', yA, yc, zA, zc, q1, q2, q3, q4, _⟩, qk⟩ := had
      have HFIN := Lib.hid (HFA.out 0 w6 fl' qk q1 ⟨1, _, .of q2, .inl ⟨rfl, rfl, yA, yc, zA, zc, rfl, .of (q3.mono (by omega)), .of (q4.mono (by omega))⟩⟩)
      clear q1 q2 q3 q4 qk
      go_wp2_with fail
      go_meet
      exact ⟨0, rfl, rfl, HFIN.out⟩
  case rest =>
    obtain ⟨e1, rfl, rfl, hfa⟩ := hcut
    have HFA := Lib.hid hfa
    clear hfa x1 HF5
    obtain ⟨wA, hwA⟩ : ∃ z, z = wc := ⟨_, rfl⟩
    subst hwA
    go_upto_if 49 with (fail)
    go_cut [13] (fun t13 wx => ∃ t : Int, t13 = .int .u8 t ∧ wx = wA)
    case first =>
      by_cases hn0 : nl = 0
      · have hd : decide ((0 : Int) < (nl : Int)) = false := decide_eq_false (by omega)
        go_wp2_with fail
        go_meet
        exact ⟨_, rfl, rfl⟩
      · have hd : decide ((0 : Int) < (nl : Int)) = true := decide_eq_true (by omega)
        have hl := HL.out.kept HFA.out.k0
        obtain ⟨lb, lo, hLe, hlc⟩ := hl.sl (by omega)
        subst hLe
        have l0 : wA.cell? ⟨lb, lo, none⟩ = some (.int .u8 (lv 0).t) := hlc 0 (by omega)
        clear hl hlc
        have h1 : decide ((0 : Int) < (nl : Int)) = true := decide_eq_true (by omega)
        have h2 : ((0 : Int) < (nl : Int)) = True := eq_true (by omega)
        go_wp2_with fail
        go_meet
        exact ⟨_, rfl, rfl⟩
    case rest =>
      obtain ⟨t, rfl, rfl⟩ := hcut
      obtain ⟨wA, hwA⟩ : ∃ z, z = wc := ⟨_, rfl⟩
      subst hwA
      go_upto_region 9 with (fail)
      go_cut [14, 15] (fun t14 t15 wx => ∃ e2 : Int, t14 = .int .i64 0 ∧ t15 = .int .i64 e2 ∧ FE w wx sb M e1 e2 P R np pc nr rc pv rv nl lv nb bv (.slice pA np pcc) (.slice kA nl kc) (.slice cA nb cc))
      case first =>
        obtain ⟨f1, f2, f3, f4, f5, f6, f7, f8, fl, f9, f10⟩ := HFA.out
        have hk5 := lsl_own (bytes := 24) (A := kA) (n := nl) (c := kc) f7.own HL.out.sm
        have hFE : ∀ (e2 : Int) (w6 : World) (el : Value), Kept (ST sb (.slice none 0 0)) wA w6 → Blk w6 sb 95 (stCells fl (.slice none 0 0) (.slice none 0 0) (.slice none 0 0) el (.slice none 0 0) (.slice none 0 0)) → ElemK w6 M w6.heap.size el e2 nl lv → FE w w6 sb M e1 e2 P R np pc nr rc pv rv nl lv nb bv (.slice pA np pcc) (.slice kA nl kc) (.slice cA nb cc) := fun e2 w6 el hk hb hf => by
          have hS : ∀ i, ST sb (.slice none 0 0) i → i = sb := fun i e => by
            rcases e with e | e
            · exact e
            · cases e
          have hS2 : ∀ i, ST sb (.slice none 0 0) i → i < sb + 1 ∨ M ≤ i := fun i e => .inl (by have := hS i e; omega)
          exact ⟨f1.trans_ hk (fun i e => .inr (by have := hS i e; omega)), f2, f3, by have := hk.size; omega, hk.blk f5 (fun e => by have := hS _ e; omega), f6.kept hk hS2, f7.kept hk hS2, f8.kept hk hS2, fl, el, hb, (f10.kept hk (fun i e => .inl (by have := hS i e; omega))).more hk.size, hf⟩
        have HFE := Lib.hid hFE
        by_cases hbad : isRefB t = false ∨ badB lv nl t = true
        · have hc := addelem_bad t kA nl kc lv f9 (Own.nil _ M _ _ _ (fun _ => undef)) (by omega) hk5 hbad
          have HO := Lib.hid f9
          clear f1 f2 f3 f4 f5 f6 f7 f8 f9 f10 hk5 hFE hbad
          go_wp2_with fail
          refine hc.mono ?_
          clear hc
          rintro e w6 ⟨rfl, hk⟩
          have HFIN := Lib.hid (HFE.out 2 w6 _ (hk.of0 _) (hk.blk HO.out (fun x => x)) ⟨0, fun _ => undef, ⟨Own.nil _ _ _ _ _ _, fun g hg => by cases hg⟩, .inr ⟨rfl, rfl⟩⟩)
          clear hk
          go_wp2_with fail
          go_meet
          exact ⟨2, rfl, rfl, HFIN.out⟩
        · have hb1 : isRefB t = true := by simpa using fun h => hbad (.inl h)
          have hb2 : badB lv nl t = false := by simpa using fun h => hbad (.inr h)
          have hc := addelem_ok t kA nl kc lv f9 (Own.nil _ M _ _ _ (fun _ => undef)) (by omega) f4 hk5 hb1 hb2
          have HMW := Lib.hid f4
          clear f1 f2 f3 f4 f5 f6 f7 f8 f9 f10 hk5 hFE hbad hb1 hb2
          go_wp2_with fail
          refine hc.mono ?_
          clear hc
          rintro e w6 ⟨rfl, had⟩
          obtain ⟨⟨el', yA, yc, q1, q2, q3, _⟩, qk⟩ := had
          have HFIN := Lib.hid (HFE.out 0 w6 el' qk q1 ⟨1, _, .of q2, .inl ⟨rfl, rfl, t, yA, yc, rfl, rfl, .of (q3.mono HMW.out)⟩⟩)
          clear q1 q2 q3 qk
          go_wp2_with fail
          go_meet
          exact ⟨0, rfl, rfl, HFIN.out⟩
      case rest =>
        obtain ⟨e2, rfl, rfl, hfe⟩ := hcut
        have HFE := Lib.hid hfe
        clear hfe HFA
        obtain ⟨wB, hwB⟩ : ∃ z, z = wc := ⟨_, rfl⟩
        subst hwB
        go_wp2_with fail
        obtain ⟨f1, f2, f3, f4, f5, f6, f7, f8, fl, el, f9, f10, f11⟩ := HFE.out
        have hc5 := lsl_own (bytes := 1) (A := cA) (n := nb) (c := cc) f8.own HY.out.sm
        refine (adddata_ok cA nb cc bv f9 (Own.nil _ M _ _ _ (fun _ => undef)) (by omega) f4 hc5).mono ?_
        rintro e w6 ⟨rfl, had⟩
        obtain ⟨⟨dl', yA, yc, q1, q2, q3, _⟩, hk⟩ := had
        have hS : ∀ i, ST sb (.slice none 0 0) i → i = sb := fun i e => by
          rcases e with e | e
          · exact e
          · cases e
        have hS2 : ∀ i, ST sb (.slice none 0 0) i → i < sb + 1 ∨ M ≤ i := fun i e => .inl (by have := hS i e; omega)
        have hS3 : ∀ i, ST sb (.slice none 0 0) i → i < M ∨ wB.heap.size ≤ i := fun i e => .inl (by have := hS i e; omega)
        obtain ⟨N, hN⟩ : ∃ N, w6.heap.size = N := ⟨_, rfl⟩
        have hkz := hk.size
        have HST := Lib.hid (show FSt w w6 sb M N e1 e2 P R np pc nr rc pv rv nl lv nb bv from ⟨f1.trans_ hk (fun i e => .inr (by have := hS i e; omega)), f2, f3, by omega, by omega, hk.blk f5 (fun e => by have := hS _ e; omega), fl, el, dl', q1, (f10.kept hk hS3).more (by omega), (f11.kept hk hS3).more (by omega), ⟨_, yA, yc, ⟨q2, fun g hg => by have := (q2.lt g hg).2; omega⟩, rfl, ⟨q3.mono f4, fun g hg => by have := (q3.lt g hg).2; omega⟩⟩⟩)
        have HPP := Lib.hid (f6.kept hk hS2)
        have HKL := Lib.hid (f7.kept hk hS2)
        have HC := Lib.hid (f8.kept hk hS2)
        clear f1 f2 f3 f4 f5 f6 f7 f8 f9 f10 f11 hc5 q1 q2 q3 hk hS hS2 hS3 hkz hN HFE
        clear HM
        go_wp2_with fail
        have hpsz := HP.out.sz
        have HPL := Lib.hid (show ∀ g, (Value.slice pA np pcc).ownBlock = some g → sb < g ∧ g < M from fun g hg => ⟨(HPP.out.own.lt g hg).1, HPP.out.lt g hg⟩)
        go_loopw [18] (fun i wr => ∃ j : Nat, j ≤ np ∧ i = .int .i64 (j : Int) ∧ FSt w wr sb M N e1 e2 P R np pc nr rc pv rv nl lv nb bv ∧ (∃ F, Own wr (sb + 1) 37 1 IsByte (.slice pA np pcc) np F) ∧ OwnB wr (sb + 1) M 40 3 AnyV (.slice kA nl kc) nl (vcell lv) ∧ OwnB wr (sb + 1) M 5 1 IsByte (.slice cA nb cc) nb (byteV bv)) (fun i _ => np - (intOf i).toNat)
        case atStart => exact ⟨0, by omega, rfl, HST.out, ⟨_, HPP.out.own⟩, HKL.out, HC.out⟩
        case round =>
          clear HST HPP HKL HC
          obtain ⟨j, hj, rfl, hst, ⟨F, hp⟩, hkl, hc⟩ := hrel
          by_cases hlt : j < np
          · obtain ⟨g, c2, hpe, _, _⟩ := hp.is_some (by omega)
            cases hpe
            have hg := HPL.out g rfl
            have hcf := hp.cellAt (j := j) (by omega)
            have d0 := hcf.1
            have f0 := hcf.2
            have hks : Kept (S1 g) wr (wr.setCell ⟨g, j, none⟩ (.int .u8 1)) := (Kept.refl (S1 g) wr).setCell (p := ⟨g, j, none⟩) (.inl rfl) _
            have h1 : ((j : Int) < (np : Int)) = True := eq_true (by omega)
            have h2 : decide ((j : Int) < (np : Int)) = true := decide_eq_true (by omega)
            have HN := Lib.hid (show FSt w (wr.setCell ⟨g, j, none⟩ (.int .u8 1)) sb M N e1 e2 P R np pc nr rc pv rv nl lv nb bv ∧ (∃ F, Own (wr.setCell ⟨g, j, none⟩ (.int .u8 1)) (sb + 1) 37 1 IsByte (.slice (some ⟨g, 0, none⟩) np pcc) np F) ∧ OwnB (wr.setCell ⟨g, j, none⟩ (.int .u8 1)) (sb + 1) M 40 3 AnyV (.slice kA nl kc) nl (vcell lv) ∧ OwnB (wr.setCell ⟨g, j, none⟩ (.int .u8 1)) (sb + 1) M 5 1 IsByte (.slice cA nb cc) nb (byteV bv) from
              ⟨hst.kept hks (fun i e => by have e' : i = g := e; rw [e']; exact ⟨hg.1, .inl hg.2⟩), own_write hp ⟨1, rfl⟩, ⟨hkl.own.kept hks (fun q hq e => by have e' : q = g := e; exact own_types hp hkl.own (by decide) g rfl (by rw [← e']; exact hq)), hkl.lt⟩, ⟨hc.own.kept hks (fun q hq e => by have e' : q = g := e; exact own_types hp hc.own (by decide) g rfl (by rw [← e']; exact hq)), hc.lt⟩⟩)
            clear hst hp hkl hc hks hcf
            go_wp2_with fail
            go_roundw
            case rel => exact ⟨j + 1, by omega, by go_num, HN.out⟩
            case measure => simp [intOf]; omega
          · obtain rfl : np = j := by omega
            have HST := Lib.hid hst
            have HKL := Lib.hid hkl
            have HC := Lib.hid hc
            clear hst hp hkl hc HPL
            go_wp2_with fail
            obtain ⟨wC, hwC⟩ : ∃ z, z = wr := ⟨_, rfl⟩
            subst hwC
            have hlsz := HL.out.sm
            have HPL := Lib.hid (show ∀ g, (Value.slice kA nl kc).ownBlock = some g → sb < g ∧ g < M from fun g hg => ⟨(HKL.out.own.lt g hg).1, HKL.out.lt g hg⟩)
            go_loopw [19] (fun i wr => ∃ j : Nat, j ≤ nl ∧ i = .int .i64 (j : Int) ∧ FSt w wr sb M N e1 e2 P R np pc nr rc pv rv nl lv nb bv ∧ (∃ F, Own wr (sb + 1) 40 3 AnyV (.slice kA nl kc) nl F) ∧ OwnB wr (sb + 1) M 5 1 IsByte (.slice cA nb cc) nb (byteV bv)) (fun i _ => nl - (intOf i).toNat)
            case atStart => exact ⟨0, by omega, rfl, HST.out, ⟨_, HKL.out.own⟩, HC.out⟩
            case round =>
              clear HST HKL HC
              obtain ⟨j, hj, rfl, hst, ⟨F, hp⟩, hc⟩ := hrel
              by_cases hlt : j < nl
              · obtain ⟨g, c2, hpe, _, _⟩ := hp.is_some (by omega)
                cases hpe
                have hg := HPL.out g rfl
                have d0 := (hp.cellAt (j := j * 3) (by omega)).1
                have f0 := (hp.cellAt (j := j * 3) (by omega)).2
                have d1 := (hp.cellAt (j := j * 3 + 1) (by omega)).1
                have f1 := (hp.cellAt (j := j * 3 + 1) (by omega)).2
                have d2 := (hp.cellAt (j := j * 3 + 2) (by omega)).1
                have f2 := (hp.cellAt (j := j * 3 + 2) (by omega)).2
                have hks := (((Kept.refl (S1 g) wr).setCell (p := ⟨g, j * 3, none⟩) (.inl rfl) (.int .u8 0)).setCell (p := ⟨g, j * 3 + 1, none⟩) (.inl rfl) (.int .u64 0)).setCell (p := ⟨g, j * 3 + 2, none⟩) (.inl rfl) (.int .u64 0)
                have h1 : ((j : Int) < (nl : Int)) = True := eq_true (by omega)
                have h2 : decide ((j : Int) < (nl : Int)) = true := decide_eq_true (by omega)
                have HN := Lib.hid (show FSt w (((wr.setCell ⟨g, j * 3, none⟩ (.int .u8 0)).setCell ⟨g, j * 3 + 1, none⟩ (.int .u64 0)).setCell ⟨g, j * 3 + 2, none⟩ (.int .u64 0)) sb M N e1 e2 P R np pc nr rc pv rv nl lv nb bv ∧ (∃ F, Own (((wr.setCell ⟨g, j * 3, none⟩ (.int .u8 0)).setCell ⟨g, j * 3 + 1, none⟩ (.int .u64 0)).setCell ⟨g, j * 3 + 2, none⟩ (.int .u64 0)) (sb + 1) 40 3 AnyV (.slice (some ⟨g, 0, none⟩) nl kc) nl F) ∧ OwnB (((wr.setCell ⟨g, j * 3, none⟩ (.int .u8 0)).setCell ⟨g, j * 3 + 1, none⟩ (.int .u64 0)).setCell ⟨g, j * 3 + 2, none⟩ (.int .u64 0)) (sb + 1) M 5 1 IsByte (.slice cA nb cc) nb (byteV bv) from by
                  refine ⟨hst.kept hks (fun i e => by have e' : i = g := e; rw [e']; exact ⟨hg.1, .inl hg.2⟩), ?_, ⟨hc.own.kept hks (fun q hq e => by have e' : q = g := e; exact own_types hp hc.own (by decide) g rfl (by rw [← e']; exact hq)), hc.lt⟩⟩
                  obtain ⟨F1, q1⟩ := own_write (j := j * 3) (u := .int .u8 0) hp trivial
                  obtain ⟨F2, q2⟩ := own_write (j := j * 3 + 1) (u := .int .u64 0) q1 trivial
                  exact own_write (j := j * 3 + 2) (u := .int .u64 0) q2 trivial)
                clear hst hp hc hks
                go_wp2_with fail
                go_roundw
                case rel => exact ⟨j + 1, by omega, by go_num, HN.out⟩
                case measure => simp [intOf]; omega
              · obtain rfl : nl = j := by omega
                have HST := Lib.hid hst
                have HC := Lib.hid hc
                clear hst hp hc HPL
                go_wp2_with fail
                obtain ⟨wD, hwD⟩ : ∃ z, z = wr := ⟨_, rfl⟩
                subst hwD
                refine (spoil_own (sb + 1) nb cA cc 3 _ wD HC.out.own).mono ?_
                rintro e wE ⟨rfl, hk⟩
                have HSE := Lib.hid (HST.out.kept hk (fun i e => ⟨(HC.out.own.lt i e).1, .inl (HC.out.lt i e)⟩))
                clear hk HST HC
                go_wp2_with fail
                go_loopw [20] (fun i wr => ∃ j : Nat, j ≤ 2 ∧ i = .int .i64 (j : Int) ∧ FSt w wr sb M N e1 e2 P R np pc nr rc pv rv nl lv nb bv) (fun i _ => 2 - (intOf i).toNat)
                case atStart => exact ⟨0, by omega, rfl, HSE.out⟩
                case round =>
                  clear HSE
                  obtain ⟨turn, hturn, rfl, hst⟩ := hrel
                  have HST := Lib.hid hst
                  clear hst
                  by_cases hlt : turn < 2
                  · have g1 : ((turn : Int) < 2) = True := eq_true (by omega)
                    have g2 : decide ((turn : Int) < 2) = true := decide_eq_true (by omega)
                    obtain ⟨wE, hwE⟩ : ∃ z, z = wr := ⟨_, rfl⟩
                    subst hwE
                    go_upto_region 23 with (fail)
                    go_cut [21, 22] (fun t21 _ wx => ∃ (ub m yc q zc : Nat) (yA zA : Option Addr) (G H : Nat → UInt8) (a2 a3 a4 a5 : Value), t21 = .pointer (some ⟨ub, 0, none⟩) ∧ FSt w wx sb M N e1 e2 P R np pc nr rc pv rv nl lv nb bv ∧ N ≤ ub ∧ Blk wx ub 36 #[.slice yA m yc, .slice zA q zc, a2, a3, a4, a5] ∧ Own wx N 37 1 IsByte (.slice yA m yc) m (byteV G) ∧ Own wx N 37 1 IsByte (.slice zA q zc) q (byteV H) ∧ m ≤ 140737488351232 ∧ ((e1 = 0 ∧ m = np ∧ q = nr ∧ G = pv ∧ H = rv) ∨ e1 = 2))
                    case first =>
                      obtain ⟨k0, s1, s2, s3, s4, bx, fl, el, dl, hb, hf, _, _⟩ := HST.out
                      obtain ⟨n, F, hown, hcs⟩ := hf.is
                      rcases hcs with ⟨he, hn, yA, yc, zA, zc, hF, hy, hz⟩ | ⟨he, hn⟩
                      · subst he hn hF
                        have hc := getfunc_in 0 yA zA np yc nr zc pv rv false { data := #[] } 0 0 hb hown.own (by omega) (by omega) (fnAt_added (tsl_own hy.own (by have := HP.out.sz; omega)) (tsl_own hz.own (by have := HR.out.sz; omega)))
                        have HNW := Lib.hid s4
                        clear k0 s1 s2 s3 s4 bx hb hf hown hy hz
                        go_wp2_with fail
                        refine hc.mono ?_
                        clear hc
                        rintro e w6 ⟨y, z, rfl, hy, hz, hk⟩
                        obtain ⟨yA, yc, hye, _, _, _⟩ := hy.out
                        obtain ⟨zA, zc, hze, _, _, _⟩ := hz.out
                        subst hye hze
                        have hk2 : Kept S0 wE (w6.alloc (.cells #[.slice yA np yc, .slice zA nr zc, .bool false, .string { data := #[] }, .int .i64 0, .int .i64 0] 36)) := hk.alloc _
                        have hka : Kept S0 w6 (w6.alloc (.cells #[.slice yA np yc, .slice zA nr zc, .bool false, .string { data := #[] }, .int .i64 0, .int .i64 0] 36)) := (Kept.refl S0 w6).alloc _
                        have HFIN := Lib.hid (show FSt w (w6.alloc (.cells #[.slice yA np yc, .slice zA nr zc, .bool false, .string { data := #[] }, .int .i64 0, .int .i64 0] 36)) sb M N 0 e2 P R np pc nr rc pv rv nl lv nb bv ∧ N ≤ w6.heap.size ∧ Blk (w6.alloc (.cells #[.slice yA np yc, .slice zA nr zc, .bool false, .string { data := #[] }, .int .i64 0, .int .i64 0] 36)) w6.heap.size 36 #[.slice yA np yc, .slice zA nr zc, .bool false, .string { data := #[] }, .int .i64 0, .int .i64 0] ∧ Own (w6.alloc (.cells #[.slice yA np yc, .slice zA nr zc, .bool false, .string { data := #[] }, .int .i64 0, .int .i64 0] 36)) N 37 1 IsByte (.slice yA np yc) np (byteV pv) ∧ Own (w6.alloc (.cells #[.slice yA np yc, .slice zA nr zc, .bool false, .string { data := #[] }, .int .i64 0, .int .i64 0] 36)) N 37 1 IsByte (.slice zA nr zc) nr (byteV rv) ∧ np ≤ 140737488351232 from
                          ⟨HST.out.kept hk2 (fun i e => e.elim), by have := hk.size; have := HNW.out; omega, Blk.new _ _ _, (hy.kept hka (fun _ _ x => x)).mono HNW.out, (hz.kept hka (fun _ _ x => x)).mono HNW.out, HP.out.sz⟩)
                        clear hy hz hk hk2 hka
                        go_wp2_with fail
                        go_meet
                        obtain ⟨q1, q2, q3, q4, q5, q6⟩ := HFIN.out
                        exact ⟨_, np, yc, nr, zc, yA, zA, pv, rv, _, _, _, _, rfl, q1, q2, q3, q4, q5, q6, by simp⟩
                      · subst he hn
                        have hc := getfunc_out 0 hb hown.own (by omega) (.inr (by omega))
                        have HNW := Lib.hid s4
                        clear k0 s1 s2 s3 s4 bx hb hf hown
                        go_wp2_with fail
                        refine hc.mono ?_
                        clear hc
                        rintro e w6 ⟨rfl, hk⟩
                        have hk2 : Kept S0 wE (w6.alloc (.cells #[.slice none 0 0, .slice none 0 0, .bool false, .string { data := #[] }, .int .i64 0, .int .i64 0] 36)) := hk.alloc _
                        have HFIN := Lib.hid (show FSt w (w6.alloc (.cells #[.slice none 0 0, .slice none 0 0, .bool false, .string { data := #[] }, .int .i64 0, .int .i64 0] 36)) sb M N 2 e2 P R np pc nr rc pv rv nl lv nb bv ∧ N ≤ w6.heap.size ∧ Blk (w6.alloc (.cells #[.slice none 0 0, .slice none 0 0, .bool false, .string { data := #[] }, .int .i64 0, .int .i64 0] 36)) w6.heap.size 36 #[.slice none 0 0, .slice none 0 0, .bool false, .string { data := #[] }, .int .i64 0, .int .i64 0] from
                          ⟨HST.out.kept hk2 (fun i e => e.elim), by have := hk.size; have := HNW.out; omega, Blk.new _ _ _⟩)
                        clear hk hk2
                        go_wp2_with fail
                        go_meet
                        obtain ⟨q1, q2, q3⟩ := HFIN.out
                        exact ⟨_, 0, 0, 0, 0, none, none, pv, rv, _, _, _, _, rfl, q1, q2, q3, Own.nil _ _ _ _ _ _, Own.nil _ _ _ _ _ _, by omega, by simp⟩
                    case rest =>
                      obtain ⟨ub, m, yc, q, zc, yA, zA, G, H, a2, a3, a4, a5, rfl, hrel⟩ := hcut
                      have HRE := Lib.hid hrel
                      clear hrel HST
                      obtain ⟨wF, hwF⟩ : ∃ z, z = wc := ⟨_, rfl⟩
                      subst hwF
                      go_upto_region 24 with (fail)
                      go_cut [106] (fun t106 wx => t106 = .bool false ∧ Kept S0 wF wx)
                      case first =>
                        obtain ⟨h1, h2, h3, h4, h5, h6, h7⟩ := HRE.out
                        rcases h7 with ⟨rfl, rfl, rfl, rfl, rfl⟩ | rfl
                        · have u0 : wF.cell? ⟨ub, 0, none⟩ = some (.slice yA m yc) := h3.cell 0
                          have u1 : wF.cell? ⟨ub, 1, none⟩ = some (.slice zA q zc) := h3.cell 1
                          have x0 : wF.cell? ⟨w.heap.size, 0, none⟩ = some (.slice P m pc) := h1.box.cell 0
                          have x1 : wF.cell? ⟨w.heap.size, 1, none⟩ = some (.slice R q rc) := h1.box.cell 1
                          have hc := func_same yA zA P R m q yc zc pc rc G H G H wF (tsl_own h4 h6).sl (tsl_own h5 (by have := HR.out.sz; omega)).sl (HP.out.kept h1.k0).sl (HR.out.kept h1.k0).sl (by omega) (by have := HR.out.sz; omega) (fun _ _ => rfl) (fun _ _ => rfl)
                          clear h1 h2 h3 h4 h5
                          go_wp2_with fail
                          refine hc.mono ?_
                          clear hc
                          rintro e w7 ⟨rfl, hk⟩
                          have HKK := Lib.hid hk
                          clear hk
                          go_wp2_with fail
                          go_meet
                          exact ⟨rfl, HKK.out⟩
                        · clear h1 h2 h3 h4 h5
                          go_wp2_with fail
                          go_meet
                          exact ⟨rfl, Kept.refl _ _⟩
                      case rest =>
                        obtain ⟨rfl, hk⟩ := hcut
                        obtain ⟨wG, hwG⟩ : ∃ z, z = wc := ⟨_, rfl⟩
                        subst hwG
                        obtain ⟨h1, h2, h3, h4, h5, hm6, h7⟩ := HRE.out
                        have HST := Lib.hid (h1.kept hk (fun i e => e.elim))
                        have HUB := Lib.hid (hk.blk h3 (fun x => x))
                        have HPP := Lib.hid (h4.kept hk (fun _ _ x => x))
                        clear h1 h2 h3 h4 h5 h7 hk HRE
                        go_wp2_with fail
                        have hsbN : sb < N := Nat.lt_of_lt_of_le HST.out.sbM HST.out.MN
                        go_loopw [23] (fun i wr => ∃ j : Nat, j ≤ m ∧ i = .int .i64 (j : Int) ∧ FSt w wr sb M N e1 e2 P R np pc nr rc pv rv nl lv nb bv ∧ Blk wr ub 36 #[.slice yA m yc, .slice zA q zc, a2, a3, a4, a5] ∧ (∃ F, Own wr N 37 1 IsByte (.slice yA m yc) m F)) (fun i _ => m - (intOf i).toNat)
                        case atStart => exact ⟨0, by omega, rfl, HST.out, HUB.out, ⟨_, HPP.out⟩⟩
                        case round =>
                          clear HST HPP HUB
                          obtain ⟨j, hj, rfl, hst, hub, ⟨F, hp⟩⟩ := hrel
                          have u0 : wr.cell? ⟨ub, 0, none⟩ = some (.slice yA m yc) := hub.cell 0
                          by_cases hlt2 : j < m
                          · obtain ⟨g, c2, hpe, hgN, _⟩ := hp.is_some (by omega)
                            cases hpe
                            have hcf := hp.cellAt (j := j) (by omega)
                            have d0 := hcf.1
                            have f0 := hcf.2
                            have hks : Kept (S1 g) wr (wr.setCell ⟨g, j, none⟩ (.int .u8 1)) := (Kept.refl (S1 g) wr).setCell (p := ⟨g, j, none⟩) (.inl rfl) _
                            have hgu : ub ≠ g := fun e => hp.ne_blk hub (by decide) (by rw [e]; rfl)
                            have h1 : ((j : Int) < (m : Int)) = True := eq_true (by omega)
                            have h2 : decide ((j : Int) < (m : Int)) = true := decide_eq_true (by omega)
                            have HN := Lib.hid (show FSt w (wr.setCell ⟨g, j, none⟩ (.int .u8 1)) sb M N e1 e2 P R np pc nr rc pv rv nl lv nb bv ∧ Blk (wr.setCell ⟨g, j, none⟩ (.int .u8 1)) ub 36 #[.slice (some ⟨g, 0, none⟩) m yc, .slice zA q zc, a2, a3, a4, a5] ∧ (∃ F, Own (wr.setCell ⟨g, j, none⟩ (.int .u8 1)) N 37 1 IsByte (.slice (some ⟨g, 0, none⟩) m yc) m F) from
                              ⟨hst.kept hks (fun i e => by have e' : i = g := e; rw [e']; exact ⟨by omega, .inr hgN⟩), hks.blk hub (fun e => hgu e), own_write hp ⟨1, rfl⟩⟩)
                            clear hst hp hks hcf hub
                            go_wp2_with fail
                            go_roundw
                            case rel => exact ⟨j + 1, by omega, by go_num, HN.out⟩
                            case measure => simp [intOf]; omega
                          · obtain rfl : m = j := by omega
                            have HST := Lib.hid hst
                            have h2 : decide ((m : Int) < (m : Int)) = false := decide_eq_false (by omega)
                            clear hst hp hub
                            obtain ⟨wH, hwH⟩ : ∃ z, z = wr := ⟨_, rfl⟩
                            subst hwH
                            go_upto_region 30 with (fail)
                            clear u0
                            go_cut [24, 25] (fun t24 _ wx => ∃ (vA : Option Addr) (vm vc : Nat), t24 = .slice vA vm vc ∧ FSt w wx sb M N e1 e2 P R np pc nr rc pv rv nl lv nb bv ∧ (∃ F, Own wx N 40 3 AnyV (.slice vA vm vc) vm F ∧ (e2 = 0 → F = vcell lv)) ∧ vm ≤ 9223372036854775806 ∧ ((e2 = 0 ∧ vm = nl) ∨ e2 = 2))
                            case first =>
                              obtain ⟨k0, s1, s2, s3, s4, bx, fl, el, dl, hb, _, hf, _⟩ := HST.out
                              obtain ⟨n, F, hown, hcs⟩ := hf.is
                              rcases hcs with ⟨he, hn, t, yA, yc, hF0, hF1, hy⟩ | ⟨he, hn⟩
                              · subst he hn
                                have hc := getelem_in 0 t yA nl yc lv hb hown.own (by omega) (by omega) hF0 hF1 (lsl_own hy.own HL.out.sm)
                                have HNW := Lib.hid s4
                                clear k0 s1 s2 s3 s4 bx hb hf hown hy hF0 hF1
                                go_wp2_with fail
                                refine hc.mono ?_
                                clear hc
                                rintro e w6 ⟨y, rfl, hy, hk⟩
                                obtain ⟨yA, yc, hye, _, _, _⟩ := hy.out
                                subst hye
                                have HFIN := Lib.hid (show FSt w w6 sb M N e1 0 P R np pc nr rc pv rv nl lv nb bv ∧ Own w6 N 40 3 AnyV (.slice yA nl yc) nl (vcell lv) from ⟨HST.out.kept hk (fun i e => e.elim), hy.mono HNW.out⟩)
                                clear hy hk
                                go_wp2_with fail
                                go_meet
                                exact ⟨yA, nl, yc, rfl, HFIN.out.1, ⟨_, HFIN.out.2, fun _ => rfl⟩, by omega, by simp⟩
                              · subst he hn
                                have hc := getelem_out 0 hb hown.own (by omega) (.inr (by omega))
                                clear k0 s1 s2 s3 s4 bx hb hf hown
                                go_wp2_with fail
                                refine hc.mono ?_
                                clear hc
                                rintro e w6 ⟨rfl, rfl⟩
                                go_wp2_with fail
                                go_meet
                                exact ⟨none, 0, 0, rfl, HST.out, ⟨fun _ => undef, Own.nil _ _ _ _ _ _, fun h => by cases h⟩, by omega, by simp⟩
                            case rest =>
                              obtain ⟨vA, vm, vc, rfl, hrel⟩ := hcut
                              have HRE := Lib.hid hrel
                              clear hrel HST
                              obtain ⟨wI, hwI⟩ : ∃ z, z = wc := ⟨_, rfl⟩
                              subst hwI
                              go_upto_region 31 with (fail)
                              go_cut [133] (fun t133 wx => t133 = .bool false ∧ Kept S0 wI wx)
                              case first =>
                                obtain ⟨h1, ⟨F, h2, h3⟩, h4, h5⟩ := HRE.out
                                rcases h5 with ⟨rfl, rfl⟩ | rfl
                                · obtain rfl := h3 rfl
                                  have hl := HL.out.kept h1.k0
                                  have hc := values_same vA L vm vc cl lv lv wI (lsl_own h2 HL.out.sm).sl hl.sl (by omega) (fun _ _ => rfl)
                                  clear h1 h2 h3 hl
                                  go_wp2_with fail
                                  refine hc.mono ?_
                                  clear hc
                                  rintro e w7 ⟨rfl, hk⟩
                                  have HKK := Lib.hid hk
                                  clear hk
                                  go_wp2_with fail
                                  go_meet
                                  exact ⟨rfl, HKK.out⟩
                                · clear h1 h2 h3
                                  go_wp2_with fail
                                  go_meet
                                  exact ⟨rfl, Kept.refl _ _⟩
                              case rest =>
                                obtain ⟨rfl, hk⟩ := hcut
                                obtain ⟨wJ, hwJ⟩ : ∃ z, z = wc := ⟨_, rfl⟩
                                subst hwJ
                                obtain ⟨h1, ⟨F0, hv0, _⟩, hvm, _⟩ := HRE.out
                                have HST := Lib.hid (h1.kept hk (fun i e => e.elim))
                                have HVV := Lib.hid (hv0.kept hk (fun _ _ x => x))
                                clear h1 hk HRE hv0
                                go_wp2_with fail
                                go_loopw [26] (fun i wr => ∃ j : Nat, j ≤ vm ∧ i = .int .i64 (j : Int) ∧ FSt w wr sb M N e1 e2 P R np pc nr rc pv rv nl lv nb bv ∧ (∃ F, Own wr N 40 3 AnyV (.slice vA vm vc) vm F)) (fun i _ => vm - (intOf i).toNat)
                                case atStart => exact ⟨0, by omega, rfl, HST.out, ⟨_, HVV.out⟩⟩
                                case round =>
                                  clear HST HVV
                                  obtain ⟨j, hj, rfl, hst, ⟨F, hp⟩⟩ := hrel
                                  by_cases hlt3 : j < vm
                                  · obtain ⟨g, c2, hpe, hgN, _⟩ := hp.is_some (by omega)
                                    cases hpe
                                    have d0 := (hp.cellAt (j := j * 3) (by omega)).1
                                    have f0 := (hp.cellAt (j := j * 3) (by omega)).2
                                    have d1 := (hp.cellAt (j := j * 3 + 1) (by omega)).1
                                    have f1 := (hp.cellAt (j := j * 3 + 1) (by omega)).2
                                    have d2 := (hp.cellAt (j := j * 3 + 2) (by omega)).1
                                    have f2 := (hp.cellAt (j := j * 3 + 2) (by omega)).2
                                    have hks := (((Kept.refl (S1 g) wr).setCell (p := ⟨g, j * 3, none⟩) (.inl rfl) (.int .u8 0)).setCell (p := ⟨g, j * 3 + 1, none⟩) (.inl rfl) (.int .u64 0)).setCell (p := ⟨g, j * 3 + 2, none⟩) (.inl rfl) (.int .u64 0)
                                    have h1 : ((j : Int) < (vm : Int)) = True := eq_true (by omega)
                                    have h2 : decide ((j : Int) < (vm : Int)) = true := decide_eq_true (by omega)
                                    have HN := Lib.hid (show FSt w (((wr.setCell ⟨g, j * 3, none⟩ (.int .u8 0)).setCell ⟨g, j * 3 + 1, none⟩ (.int .u64 0)).setCell ⟨g, j * 3 + 2, none⟩ (.int .u64 0)) sb M N e1 e2 P R np pc nr rc pv rv nl lv nb bv ∧ (∃ F, Own (((wr.setCell ⟨g, j * 3, none⟩ (.int .u8 0)).setCell ⟨g, j * 3 + 1, none⟩ (.int .u64 0)).setCell ⟨g, j * 3 + 2, none⟩ (.int .u64 0)) N 40 3 AnyV (.slice (some ⟨g, 0, none⟩) vm vc) vm F) from by
                                      refine ⟨hst.kept hks (fun i e => by have e' : i = g := e; rw [e']; exact ⟨by omega, .inr hgN⟩), ?_⟩
                                      obtain ⟨F1, q1⟩ := own_write (j := j * 3) (u := .int .u8 0) hp trivial
                                      obtain ⟨F2, q2⟩ := own_write (j := j * 3 + 1) (u := .int .u64 0) q1 trivial
                                      exact own_write (j := j * 3 + 2) (u := .int .u64 0) q2 trivial)
                                    clear hst hp hks
                                    go_wp2_with fail
                                    go_roundw
                                    case rel => exact ⟨j + 1, by omega, by go_num, HN.out⟩
                                    case measure => simp [intOf]; omega
                                  · obtain rfl : vm = j := by omega
                                    have HST := Lib.hid hst
                                    have h2 : decide ((vm : Int) < (vm : Int)) = false := decide_eq_false (by omega)
                                    clear hst hp
                                    obtain ⟨wK, hwK⟩ : ∃ z, z = wr := ⟨_, rfl⟩
                                    subst hwK
                                    go_wp2_with fail
                                    obtain ⟨k0, s1, s2, s3, s4, bx, fl, el, dl, hb, _, _, hf⟩ := HST.out
                                    obtain ⟨FD, dA, dc, hown, hF0, hd⟩ := hf.is
                                    have hlb := HY.out.kept k0
                                    have hc := getdata_in 0 dA nb dc bv hb hown.own (by omega) (by omega) hF0 (lsl_own hd.own HY.out.sm)
                                    refine hc.mono ?_
                                    clear hc
                                    rintro e wL ⟨y, rfl, hy, hk⟩
                                    obtain ⟨yA2, yc2, hye, _, _, _⟩ := hy.out
                                    subst hye
                                    have hnb := HY.out.sm
                                    have hc := bytes_same yA2 Bb nb yc2 cb bv bv wL (by have h := (lsl_own hy HY.out.sm).sl; rw [Nat.mul_one] at h; exact h) (by have h := (hlb.kept hk).sl; rw [Nat.mul_one] at h; exact h) (by omega) (fun _ _ => rfl)
                                    have HST2 := Lib.hid (HST.out.kept hk (fun i e => e.elim))
                                    have HD := Lib.hid (hy.mono s4)
                                    clear k0 s1 s2 s3 s4 bx hb hf hown hF0 hd hlb hy hk HST
                                    go_wp2_with fail
                                    refine hc.mono ?_
                                    clear hc
                                    rintro e wM ⟨rfl, hk⟩
                                    have HST3 := Lib.hid (HST2.out.kept hk (fun i e => e.elim))
                                    have HD3 := Lib.hid (HD.out.kept hk (fun _ _ x => x))
                                    clear hk HST2 HD
                                    go_wp2_with fail
                                    refine (spoil_own N nb yA2 yc2 9 _ wM HD3.out).mono ?_
                                    rintro e wN ⟨rfl, hk⟩
                                    have HST4 := Lib.hid (HST3.out.kept hk (fun i e => ⟨by have := (HD3.out.lt i e).1; omega, .inr (HD3.out.lt i e).1⟩))
                                    clear hk HST3 HD3
                                    go_wp2_with fail
                                    go_roundw
                                    case rel => exact ⟨turn + 1, by omega, by go_num, HST4.out⟩
                                    case measure => simp [intOf]; omega
                  · have g2 : decide ((turn : Int) < 2) = false := decide_eq_false (by omega)
                    go_wp2_with fail
                    refine (lives_any _).mono ?_
                    rintro e wL ⟨rfl, hk⟩
                    have HFIN := Lib.hid (HST.out.k0.then0 hk)
                    clear hk
                    go_wp2_with fail
                    go_ret
                    exact ⟨rfl, HFIN.out⟩
end Go.Proofs.Ytlnkdnmeikpckaa
