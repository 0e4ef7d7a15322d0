/- Whatever the input, StoreFits returns true and its arguments read as they did. No condition. -/
import Derived.Test.YtlnkdnmeikpckaaGreatMFia
import Derived.Test.YtlnkdnmeikpckaaGreatMFib
import Derived.Test.YtlnkdnmeikpckaaGreatMFic
import Derived.Test.YtlnkdnmeikpckaaGreatMSta
import Derived.Test.YtlnkdnmeikpckaaGreatMStb
import Derived.Test.YtlnkdnmeikpckaaGreatMStc
import Derived.Test.YtlnkdnmeikpckaaGreatMStd
import Derived.Test.YtlnkdnmeikpckaaGreatMSte
import Derived.Test.YtlnkdnmeikpckaaGreatMStf
import Derived.Test.YtlnkdnmeikpckaaGreatMStg
import Derived.Test.YtlnkdnmeikpckaaGreatMSth
import Derived.Test.YtlnkdnmeikpckaaGreatMStj
import Derived.Test.YtlnkdnmeikpckaaGreatMStl
import Derived.Test.YtlnkdnmeikpckaaGreatMStm
import Derived.Test.YtlnkdnmeikpckaaGreatRows
import Derived.ProofKit
import Derived.SizedLaws
import Derived.Lib.SmallJoins
import Derived.Deep.DeepCutAuto
import Derived.Outline
namespace Go.Proofs.YtlnkdnmeikpckaaGreat
open Go.RowKit
set_option maxRecDepth 100000
section
variable {lab lab' : Nat → Nat} {w w' : World} {A : Option Addr} {n c sz bytes : Nat} {F : Nat → Value} {S : Nat → Prop}
theorem SlL.sl (h : SlL lab w A n F) : Sl w A n F := fun hn => let ⟨b, o, e, _, hc⟩ := h hn; ⟨b, o, e, hc⟩
theorem LstL.tsl {v : Nat → UInt8} (h : LstL lab w 1 1 A n c (byteV v)) : TSl w A n c v := ⟨by have := h.sl.sl; rwa [Nat.mul_one] at this, h.z, by have := h.sm; omega⟩
end
end Go.Proofs.YtlnkdnmeikpckaaGreat
namespace Go.Proofs.YtlnkdnmeikpckaaGreat
open Go.RowKit
set_option maxRecDepth 100000
/-- The document's store's object, its lists written out. -/
theorem RAt.obj {B sb : Nat} {lab : Nat → Nat} {w : World} {P : PSt} {v : SV} (h : RAt B lab w sb P v) : ∃ A0 A1 A2 A3 A4 A5 A6 c0 c1 c2 c3 c4 c5 c6, Blk w sb 89 (rCells (.slice A0 P.nf c0) (.slice A1 P.nt c1) (.slice A2 P.nm c2) (.slice A3 P.ng c3) (.slice A4 P.ne c4) (.slice A5 P.nd c5) (.slice A6 P.ni c6)) ∧
    v.fl = .slice A0 P.nf c0 ∧ v.tl = .slice A1 P.nt c1 ∧ v.ml = .slice A2 P.nm c2 ∧ v.gl = .slice A3 P.ng c3 ∧ v.el = .slice A4 P.ne c4 ∧ v.dl = .slice A5 P.nd c5 ∧ v.il = .slice A6 P.ni c6 := by
  obtain ⟨A0, c0, e0, _⟩ := h.ls.f.out
  obtain ⟨A1, c1, e1, _⟩ := h.ls.t.out
  obtain ⟨A2, c2, e2, _⟩ := h.ls.m.out
  obtain ⟨A3, c3, e3, _⟩ := h.ls.g.out
  obtain ⟨A4, c4, e4, _⟩ := h.ls.e.out
  obtain ⟨A5, c5, e5, _⟩ := h.ls.d.out
  obtain ⟨A6, c6, e6, _⟩ := h.ls.i.out
  have ho := h.ls.obj
  rw [e0, e1, e2, e3, e4, e5, e6] at ho
  exact ⟨A0, A1, A2, A3, A4, A5, A6, c0, c1, c2, c3, c4, c5, c6, ho, e0, e1, e2, e3, e4, e5, e6⟩
end Go.Proofs.YtlnkdnmeikpckaaGreat
namespace Go.Proofs.YtlnkdnmeikpckaaGreat
open Go.RowKit
set_option maxRecDepth 100000
def noneE (n : Nat) (a : Int) : Int := if inA a n = true then 0 else 11
theorem noneE_in {n : Nat} {a : Int} (h : inA a n = true) : noneE n a = 0 := if_pos h
theorem noneE_out {n : Nat} {a : Int} (h : inA a n = false) : noneE n a = 11 := if_neg (by rw [h]; decide)
theorem inA_nat {n : Nat} {a : Int} (h : inA a n = true) : ∃ k : Nat, a = (k : Int) ∧ k < n := by
  have h' := of_decide_eq_true h
  exact ⟨a.toNat, by omega, by omega⟩
theorem inA_out {n : Nat} {a : Int} (h : inA a n = false) : a < 0 ∨ (n : Int) ≤ a := by
  have h' := of_decide_eq_false h
  omega
theorem FnL.at {lab : Nat → Nat} {w : World} {F : Nat → Value} {i : Nat} {p : PFn} (h : FnL lab w F i p) : ∃ A c C d, FnAt w F i A p.np c p.v C p.nr d p.u p.h p.s p.i p.b := by
  obtain ⟨A, c, C, d, f0, f1, f2, f3, f4, f5, l1, l2⟩ := h.ex
  exact ⟨A, c, C, d, f0, f1, f2, f3, f4, f5, l1.tsl, l2.tsl⟩
section
variable {B sb rb : Nat} {lab : Nat → Nat} {w : World} {P : PSt} {v u : SV}
theorem g_func (h : SAt B lab w sb P v) (hP : P.Le 60) (a : Int) :
    Calls Tryz.prog 14 #[.pointer (some ⟨sb, 0, none⟩), .int .i64 a] w fun e w' => (∃ x0 x1 x2 y0 y1 y2 h s i b, e = .returned (.tuple #[.agg #[.slice x0 x1 x2, .slice y0 y1 y2, .bool h, .string s, .int .i64 i, .int .i64 b], .int .i64 (noneE P.nf a)])) ∧ Kept S0 w w' := by
  have hn := hP.f
  cases ha : inA a P.nf with
  | false =>
    rw [noneE_out ha]
    refine (getfunc_out a h.ls.obj h.ls.f (by omega) (inA_out ha)).mono ?_
    rintro e w' ⟨rfl, hk⟩
    exact ⟨⟨_, _, _, _, _, _, _, _, _, _, rfl⟩, hk⟩
  | true =>
    rw [noneE_in ha]
    obtain ⟨k, rfl, hk⟩ := inA_nat ha
    obtain ⟨A, c, C, d, hF⟩ := (h.st.fn k hk).at
    refine (getfunc_in k A C (P.F k).np c (P.F k).nr d (P.F k).v (P.F k).u (P.F k).h (P.F k).s (P.F k).i (P.F k).b h.ls.obj h.ls.f (by omega) hk hF).mono ?_
    rintro e w' ⟨y, z, rfl, h1, h2, hk'⟩
    obtain ⟨A1, c1, rfl, _⟩ := h1.out
    obtain ⟨A2, c2, rfl, _⟩ := h2.out
    exact ⟨⟨_, _, _, _, _, _, _, _, _, _, rfl⟩, hk'⟩
theorem g_tab (h : SAt B lab w sb P v) (hP : P.Le 60) (a : Int) :
    Calls Tryz.prog 16 #[.pointer (some ⟨sb, 0, none⟩), .int .i64 a] w fun e w' => (∃ p : Option Addr, e = .returned (.tuple #[.pointer p, .int .i64 (noneE P.nt a)])) ∧ Kept S0 w w' := by
  have hn := hP.t
  cases ha : inA a P.nt with
  | false =>
    rw [noneE_out ha]
    refine (gettable_out a h.ls.obj h.ls.t (by omega) (inA_out ha)).mono ?_
    rintro e w' ⟨rfl, rfl⟩
    exact ⟨⟨_, rfl⟩, Kept.refl _ _⟩
  | true =>
    rw [noneE_in ha]
    obtain ⟨k, rfl, hk⟩ := inA_nat ha
    obtain ⟨tb, mn, lt, hF, _⟩ := (h.tb k hk).ex
    refine (gettable_in k _ h.ls.obj h.ls.t (by omega) hk hF).mono ?_
    rintro e w' ⟨rfl, rfl⟩
    exact ⟨⟨_, rfl⟩, Kept.refl _ _⟩
theorem g_mem (h : SAt B lab w sb P v) (hP : P.Le 60) (a : Int) :
    Calls Tryz.prog 18 #[.pointer (some ⟨sb, 0, none⟩), .int .i64 a] w fun e w' => (∃ p : Option Addr, e = .returned (.tuple #[.pointer p, .int .i64 (noneE P.nm a)])) ∧ Kept S0 w w' := by
  have hn := hP.m
  cases ha : inA a P.nm with
  | false =>
    rw [noneE_out ha]
    refine (getmem_out a h.ls.obj h.ls.m (by omega) (inA_out ha)).mono ?_
    rintro e w' ⟨rfl, rfl⟩
    exact ⟨⟨_, rfl⟩, Kept.refl _ _⟩
  | true =>
    rw [noneE_in ha]
    obtain ⟨k, rfl, hk⟩ := inA_nat ha
    obtain ⟨pb, bb, mn, f, hF, _⟩ := (h.mm k hk).ex
    refine (getmem_in k _ h.ls.obj h.ls.m (by omega) hk hF).mono ?_
    rintro e w' ⟨rfl, rfl⟩
    exact ⟨⟨_, rfl⟩, Kept.refl _ _⟩
theorem g_glob (h : SAt B lab w sb P v) (hP : P.Le 60) (a : Int) :
    Calls Tryz.prog 20 #[.pointer (some ⟨sb, 0, none⟩), .int .i64 a] w fun e w' => (∃ gt gm t lo hi, e = .returned (.tuple #[.agg #[.int .u8 gt, .bool gm], .agg #[.int .u8 t, .int .u64 lo, .int .u64 hi], .int .i64 (noneE P.ng a)])) ∧ Kept S0 w w' := by
  have hn := hP.g
  cases ha : inA a P.ng with
  | false =>
    rw [noneE_out ha]
    refine (getglob_out a h.ls.obj h.ls.g (by omega) (inA_out ha)).mono ?_
    rintro e w' ⟨rfl, hk⟩
    exact ⟨⟨_, _, _, _, _, rfl⟩, hk⟩
  | true =>
    rw [noneE_in ha]
    obtain ⟨k, rfl, hk⟩ := inA_nat ha
    have hg := h.st.gl k hk
    refine (getglob_in k (P.G k).t (P.G k).m (P.G k).x.t (P.G k).x.lo (P.G k).x.hi h.ls.obj h.ls.g (by omega) hk hg.f0 hg.f1 hg.f2 hg.f3 hg.f4).mono ?_
    rintro e w' ⟨rfl, hk'⟩
    exact ⟨⟨_, _, _, _, _, rfl⟩, hk'⟩
/-- Whether an extern fits, plain. -/
def fitsP (P : PSt) (ki a k wl wn wx : Int) (wb : Bool) (mn mx : Int) (mb : Bool) (gt : Int) (gm : Bool) (mp mr : Nat) (pv ru : Nat → UInt8) : Int :=
  if ki = 0 then (if inA a P.nf = true then fitR ((0 : Int) == k) (eqT (P.F a.toNat).np mp (P.F a.toNat).v pv && eqT (P.F a.toNat).nr mr (P.F a.toNat).u ru) else 11)
  else if ki = 1 then (if inA a P.nt = true then fitR ((1 : Int) == k) (((P.T a.toNat).el == wl) && fitLB (P.T a.toNat).n (P.T a.toNat).mx (P.T a.toNat).bd wn wx wb) else 11)
  else if ki = 2 then (if inA a P.nm = true then fitR ((2 : Int) == k) (fitLB (P.M a.toNat).pg (P.M a.toNat).mx (P.M a.toNat).bd mn mx mb) else 11)
  else if ki = 3 then (if inA a P.ng = true then fitR ((3 : Int) == k) (((P.G a.toNat).t == gt) && ((P.G a.toNat).m == gm)) else 11)
  else 11
theorem fitF_R (k : Int) (b : Bool) : fitF k b = fitR ((0 : Int) == k) b := by
  unfold fitF fitR
  by_cases h : k = 0
  · subst h; simp
  · rw [if_neg (fun x => h x.1), if_neg (by simp; intro e; exact absurd e.symm h)]
set_option maxHeartbeats 1600000 in
theorem fits_at (h : SAt B lab w sb P v) (hP : P.Le 60) (ki a : Int) (h0 : 0 ≤ ki) (s1 s2 : ByteArray) (k fi wl wn wx : Int) (wb : Bool) (mn mx : Int) (mb : Bool) (gt : Int) (gm : Bool) (T R : Option Addr) (mp mr cp cr : Nat) (pv ru : Nat → UInt8) (hT : TSl w T mp cp pv) (hR : TSl w R mr cr ru) :
    Calls Tryz.prog 10 #[.pointer (some ⟨sb, 0, none⟩), .agg #[.int .u8 ki, .int .i64 a], .agg #[.string s1, .string s2, .int .u8 k, .int .u32 fi, .int .u8 wl, .int .u32 wn, .int .u32 wx, .bool wb, .int .u32 mn, .int .u32 mx, .bool mb, .int .u8 gt, .bool gm], .agg #[.slice T mp cp, .slice R mr cr]] w fun e w' => e = .returned (.int .i64 (fitsP P ki a k wl wn wx wb mn mx mb gt gm mp mr pv ru)) ∧ Kept S0 w w' := by
  have hnf := hP.f
  have hnt := hP.t
  have hnm := hP.m
  have hng := hP.g
  have hb := h.ls.obj
  by_cases k0 : ki = 0
  · subst k0
    cases ha : inA a P.nf with
    | false =>
      rw [show fitsP P 0 a k wl wn wx wb mn mx mb gt gm mp mr pv ru = 11 from by unfold fitsP; rw [if_pos rfl]; exact if_neg (by rw [ha]; decide)]
      exact fits_func_out a h.ls.f (by omega) (inA_out ha) s1 s2 k fi wl wn wx wb mn mx mb gt gm T R mp mr cp cr pv ru hT hR hb
    | true =>
      obtain ⟨j, rfl, hj⟩ := inA_nat ha
      rw [show fitsP P 0 (j : Int) k wl wn wx wb mn mx mb gt gm mp mr pv ru = fitR ((0 : Int) == k) (eqT (P.F j).np mp (P.F j).v pv && eqT (P.F j).nr mr (P.F j).u ru) from by unfold fitsP; rw [if_pos rfl]; exact if_pos ha]
      obtain ⟨A, c, C, d, hF⟩ := (h.st.fn j hj).at
      rw [← fitF_R]
      exact fits_func_in j k A C T R (P.F j).np c (P.F j).nr d mp cp mr cr (P.F j).v (P.F j).u pv ru (P.F j).h (P.F j).s (P.F j).i (P.F j).b _ hb h.ls.f (by omega) hj hF rfl hT hR
  by_cases k1 : ki = 1
  · subst k1
    cases ha : inA a P.nt with
    | false =>
      rw [show fitsP P 1 a k wl wn wx wb mn mx mb gt gm mp mr pv ru = 11 from by unfold fitsP; rw [if_neg (by decide), if_pos rfl]; exact if_neg (by rw [ha]; decide)]
      exact fits_table_out a h.ls.t (by omega) (inA_out ha) s1 s2 k fi wl wn wx wb mn mx mb gt gm T R mp mr cp cr hb
    | true =>
      obtain ⟨j, rfl, hj⟩ := inA_nat ha
      rw [show fitsP P 1 (j : Int) k wl wn wx wb mn mx mb gt gm mp mr pv ru = fitR ((1 : Int) == k) (((P.T j).el == wl) && fitLB (P.T j).n (P.T j).mx (P.T j).bd wn wx wb) from by unfold fitsP; rw [if_neg (by decide), if_pos rfl]; exact if_pos ha]
      have hx := (h.tb j hj).hn
      obtain ⟨tb, tm, lt, hF, ht, _⟩ := (h.tb j hj).ex
      exact fits_table_in j tb B (P.T j).n (P.T j).el tm (P.T j).mx (P.T j).bd lt (P.T j).f h.ls.t (by omega) hj hF ht hx s1 s2 k fi wl wn wx wb mn mx mb gt gm T R mp mr cp cr hb
  by_cases k2 : ki = 2
  · subst k2
    cases ha : inA a P.nm with
    | false =>
      rw [show fitsP P 2 a k wl wn wx wb mn mx mb gt gm mp mr pv ru = 11 from by unfold fitsP; rw [if_neg (by decide), if_neg (by decide), if_pos rfl]; exact if_neg (by rw [ha]; decide)]
      exact fits_mem_out a h.ls.m (by omega) (inA_out ha) s1 s2 k fi wl wn wx wb mn mx mb gt gm T R mp mr cp cr hb
    | true =>
      obtain ⟨j, rfl, hj⟩ := inA_nat ha
      rw [show fitsP P 2 (j : Int) k wl wn wx wb mn mx mb gt gm mp mr pv ru = fitR ((2 : Int) == k) (fitLB (P.M j).pg (P.M j).mx (P.M j).bd mn mx mb) from by unfold fitsP; rw [if_neg (by decide), if_neg (by decide), if_pos rfl]; exact if_pos ha]
      have hx := (h.mm j hj).hp
      obtain ⟨tb, bb, tm, f, hF, ht, _⟩ := (h.mm j hj).ex
      have hq : ((((P.M j).pg * 65536) / 65536 : Nat) : Int) = (P.M j).pg := by omega
      have hh := fits_mem_in j tb bb ((P.M j).pg * 65536) tm (P.M j).mx (P.M j).bd f h.ls.m (by omega) hj hF ht (by omega) s1 s2 k fi wl wn wx wb mn mx mb gt gm T R mp mr cp cr hb
      rw [hq] at hh
      exact hh
  by_cases k3 : ki = 3
  · subst k3
    cases ha : inA a P.ng with
    | false =>
      rw [show fitsP P 3 a k wl wn wx wb mn mx mb gt gm mp mr pv ru = 11 from by unfold fitsP; rw [if_neg (by decide), if_neg (by decide), if_neg (by decide), if_pos rfl]; exact if_neg (by rw [ha]; decide)]
      exact fits_glob_out a h.ls.g (by omega) (inA_out ha) s1 s2 k fi wl wn wx wb mn mx mb gt gm T R mp mr cp cr hb
    | true =>
      obtain ⟨j, rfl, hj⟩ := inA_nat ha
      rw [show fitsP P 3 (j : Int) k wl wn wx wb mn mx mb gt gm mp mr pv ru = fitR ((3 : Int) == k) (((P.G j).t == gt) && ((P.G j).m == gm)) from by unfold fitsP; rw [if_neg (by decide), if_neg (by decide), if_neg (by decide), if_pos rfl]; exact if_pos ha]
      have hg := h.st.gl j hj
      exact fits_glob_in j (P.G j).t (P.G j).m (P.G j).x.t (P.G j).x.lo (P.G j).x.hi h.ls.g (by omega) hj hg.f0 hg.f1 hg.f2 hg.f3 hg.f4 s1 s2 k fi wl wn wx wb mn mx mb gt gm T R mp mr cp cr hb
  rw [show fitsP P ki a k wl wn wx wb mn mx mb gt gm mp mr pv ru = 11 from by unfold fitsP; rw [if_neg k0, if_neg k1, if_neg k2, if_neg k3]]
  exact fits_other ki a (by simpa using k0) (by simpa using k1) (by simpa using k2) (by simpa using k3) s1 s2 k fi wl wn wx wb mn mx mb gt gm T R mp mr cp cr hb
set_option maxHeartbeats 1600000 in
theorem rfits_at (h : RAt B lab w rb P v) (hP : P.Le 60) (ki a : Int) (h0 : 0 ≤ ki) (s1 s2 : ByteArray) (k fi wl wn wx : Int) (wb : Bool) (mn mx : Int) (mb : Bool) (gt : Int) (gm : Bool) (T R : Option Addr) (mp mr cp cr : Nat) (pv ru : Nat → UInt8) (hT : TSl w T mp cp pv) (hR : TSl w R mr cr ru) :
    Calls Tryz.prog 11 #[.pointer (some ⟨rb, 0, none⟩), .agg #[.int .u8 ki, .int .i64 a], .agg #[.string s1, .string s2, .int .u8 k, .int .u32 fi, .int .u8 wl, .int .u32 wn, .int .u32 wx, .bool wb, .int .u32 mn, .int .u32 mx, .bool mb, .int .u8 gt, .bool gm], .agg #[.slice T mp cp, .slice R mr cr]] w fun e w' => e = .returned (.int .i64 (fitsP P ki a k wl wn wx wb mn mx mb gt gm mp mr pv ru)) ∧ Kept S0 w w' := by
  have hnf := hP.f
  have hnt := hP.t
  have hnm := hP.m
  have hng := hP.g
  obtain ⟨A0, A1, A2, A3, A4, A5, A6, c0, c1, c2, c3, c4, c5, c6, hb, e0, e1, e2, e3, e4, e5, e6⟩ := h.obj
  by_cases k0 : ki = 0
  · subst k0
    have o0 := h.ls.f
    rw [e0] at o0
    cases ha : inA a P.nf with
    | false =>
      rw [show fitsP P 0 a k wl wn wx wb mn mx mb gt gm mp mr pv ru = 11 from by unfold fitsP; rw [if_pos rfl]; exact if_neg (by rw [ha]; decide)]
      exact rfits_func_out a (by omega) (inA_out ha) s1 s2 k fi wl wn wx wb mn mx mb gt gm T R mp mr cp cr hb
    | true =>
      obtain ⟨j, rfl, hj⟩ := inA_nat ha
      rw [show fitsP P 0 (j : Int) k wl wn wx wb mn mx mb gt gm mp mr pv ru = fitR ((0 : Int) == k) (eqT (P.F j).np mp (P.F j).v pv && eqT (P.F j).nr mr (P.F j).u ru) from by unfold fitsP; rw [if_pos rfl]; exact if_pos ha]
      obtain ⟨A, c, C, d, hF⟩ := (h.st.fn j hj).at
      exact rfits_func_in j A C (P.F j).np c (P.F j).nr d (P.F j).v (P.F j).u (P.F j).h (P.F j).s (P.F j).i (P.F j).b o0 (by omega) hj hF s1 s2 k fi wl wn wx wb mn mx mb gt gm T R mp mr cp cr pv ru hT hR hb
  by_cases k1 : ki = 1
  · subst k1
    have o1 := h.ls.t
    rw [e1] at o1
    cases ha : inA a P.nt with
    | false =>
      rw [show fitsP P 1 a k wl wn wx wb mn mx mb gt gm mp mr pv ru = 11 from by unfold fitsP; rw [if_neg (by decide), if_pos rfl]; exact if_neg (by rw [ha]; decide)]
      exact rfits_table_out a (by omega) (inA_out ha) s1 s2 k fi wl wn wx wb mn mx mb gt gm T R mp mr cp cr hb
    | true =>
      obtain ⟨j, rfl, hj⟩ := inA_nat ha
      rw [show fitsP P 1 (j : Int) k wl wn wx wb mn mx mb gt gm mp mr pv ru = fitR ((1 : Int) == k) (((P.T j).el == wl) && fitLB (P.T j).n (P.T j).mx (P.T j).bd wn wx wb) from by unfold fitsP; rw [if_neg (by decide), if_pos rfl]; exact if_pos ha]
      have hx := (h.tb j hj).hn
      obtain ⟨tb, tm, lt, hF, ht, _⟩ := (h.tb j hj).ex
      exact rfits_table_in j tb B (P.T j).n (P.T j).el tm (P.T j).mx (P.T j).bd lt (P.T j).f o1 (by omega) hj hF ht hx s1 s2 k fi wl wn wx wb mn mx mb gt gm T R mp mr cp cr hb
  by_cases k2 : ki = 2
  · subst k2
    have o2 := h.ls.m
    rw [e2] at o2
    cases ha : inA a P.nm with
    | false =>
      rw [show fitsP P 2 a k wl wn wx wb mn mx mb gt gm mp mr pv ru = 11 from by unfold fitsP; rw [if_neg (by decide), if_neg (by decide), if_pos rfl]; exact if_neg (by rw [ha]; decide)]
      exact rfits_mem_out a (by omega) (inA_out ha) s1 s2 k fi wl wn wx wb mn mx mb gt gm T R mp mr cp cr hb
    | true =>
      obtain ⟨j, rfl, hj⟩ := inA_nat ha
      rw [show fitsP P 2 (j : Int) k wl wn wx wb mn mx mb gt gm mp mr pv ru = fitR ((2 : Int) == k) (fitLB (P.M j).pg (P.M j).mx (P.M j).bd mn mx mb) from by unfold fitsP; rw [if_neg (by decide), if_neg (by decide), if_pos rfl]; exact if_pos ha]
      have hx := (h.mm j hj).hp
      obtain ⟨tb, tm, lv, f, hF, ht, _⟩ := (h.mm j hj).ex
      exact rfits_mem_in j tb B (P.M j).pg tm (P.M j).mx (P.M j).bd lv f o2 (by omega) hj hF ht hx s1 s2 k fi wl wn wx wb mn mx mb gt gm T R mp mr cp cr hb
  by_cases k3 : ki = 3
  · subst k3
    have o3 := h.ls.g
    rw [e3] at o3
    cases ha : inA a P.ng with
    | false =>
      rw [show fitsP P 3 a k wl wn wx wb mn mx mb gt gm mp mr pv ru = 11 from by unfold fitsP; rw [if_neg (by decide), if_neg (by decide), if_neg (by decide), if_pos rfl]; exact if_neg (by rw [ha]; decide)]
      exact rfits_glob_out a (by omega) (inA_out ha) s1 s2 k fi wl wn wx wb mn mx mb gt gm T R mp mr cp cr hb
    | true =>
      obtain ⟨j, rfl, hj⟩ := inA_nat ha
      rw [show fitsP P 3 (j : Int) k wl wn wx wb mn mx mb gt gm mp mr pv ru = fitR ((3 : Int) == k) (((P.G j).t == gt) && ((P.G j).m == gm)) from by unfold fitsP; rw [if_neg (by decide), if_neg (by decide), if_neg (by decide), if_pos rfl]; exact if_pos ha]
      have hg := h.st.gl j hj
      exact rfits_glob_in j (P.G j).t (P.G j).m o3 (by omega) hj hg.f0 hg.f1 s1 s2 k fi wl wn wx wb mn mx mb gt gm T R mp mr cp cr hb
  rw [show fitsP P ki a k wl wn wx wb mn mx mb gt gm mp mr pv ru = 11 from by unfold fitsP; rw [if_neg k0, if_neg k1, if_neg k2, if_neg k3]]
  exact rfits_other ki a (by omega) s1 s2 k fi wl wn wx wb mn mx mb gt gm T R mp mr cp cr hb
theorem r_sizes (h : RAt B lab w rb P v) : Calls Tryz.prog 9 #[.pointer (some ⟨rb, 0, none⟩)] w fun e w' => e = .returned (.agg #[.int .i64 (P.nf : Int), .int .i64 (P.nt : Int), .int .i64 (P.nm : Int), .int .i64 (P.ng : Int), .int .i64 (P.ne : Int), .int .i64 (P.nd : Int), .int .i64 (P.ni : Int)]) ∧ Kept S0 w w' := by
  obtain ⟨A0, A1, A2, A3, A4, A5, A6, c0, c1, c2, c3, c4, c5, c6, hb, _⟩ := RAt.obj h
  exact rsizes_any hb
end
end Go.Proofs.YtlnkdnmeikpckaaGreat
namespace Go.Proofs.YtlnkdnmeikpckaaGreat
open Go.ChangeShapes Go.WideShapes Go.ChangeAt Go.RowKit Go.Joins
set_option maxRecDepth 100000
theorem Tryz.own : ownKnob Tryz.prog.godebug = none := by kernel_rfl
theorem Tryz.laidOut : laidOutB Tryz.prog = true := by kernel_rfl
end Go.Proofs.YtlnkdnmeikpckaaGreat
namespace Go.Proofs.YtlnkdnmeikpckaaGreat
open Go.ChangeShapes Go.WideShapes Go.ChangeAt Go.RowKit Go.Joins
set_option maxRecDepth 100000
section
variable {H : Type} {enc : TypeId × Value → H} {W : World} {ws : List Nat} {cs : List Value}
theorem rd_agg {t : TypeId} {fs : Array Field} {v : Value} {cs : Array Value} {l : List Value} (_ht : Tryz.prog.underlying t = some (.struct fs)) (hv : v = .agg cs) (h : v.cells.toList = l) : v = .agg l.toArray := by
  subst hv
  simp only [Value.cells] at h
  rw [← h]
end
end Go.Proofs.YtlnkdnmeikpckaaGreat
namespace Go.Proofs.YtlnkdnmeikpckaaGreat
open Go.RowKit
set_option maxRecDepth 100000
def PSt.cnt (P : PSt) (k : Nat) : Nat := match k with
  | 0 => P.nf
  | 1 => P.nt
  | 2 => P.nm
  | 3 => P.ng
  | 4 => P.ne
  | 5 => P.nd
  | _ => P.ni
def PSt.arr (P : PSt) : Array Value := #[.int .i64 (P.nf : Int), .int .i64 (P.nt : Int), .int .i64 (P.nm : Int), .int .i64 (P.ng : Int), .int .i64 (P.ne : Int), .int .i64 (P.nd : Int), .int .i64 (P.ni : Int)]
theorem PSt.arr_at (P : PSt) {k : Nat} (h : k < 7) : P.arr[k]? = some (.int .i64 (P.cnt k : Int)) := by
  match k, h with
  | 0, _ => rfl
  | 1, _ => rfl
  | 2, _ => rfl
  | 3, _ => rfl
  | 4, _ => rfl
  | 5, _ => rfl
  | 6, _ => rfl
end Go.Proofs.YtlnkdnmeikpckaaGreat
namespace Go.Proofs.YtlnkdnmeikpckaaGreat
open Go.RowKit
set_option maxRecDepth 100000
section
variable {P : Program}
theorem exec_load_row {o : Oper} {a : Act} (ty : TypeId) (x : Operand) (ho : o.op = .load ty x) (w : World) (g : Nat) (hx : a.eval x = .pointer (some ⟨g, 0, none⟩)) (t : TypeId) (cs : Array Value) (fr : Nat × Nat) (d : TypeDesc) (hg : w.heap[g]? = some (.cells cs t fr))
    (hu : P.underlying ty = some d) (hd : (match d with | .struct _ | .array _ _ => true | _ => false) = true) (hi : (P.info? ty).map (·.size) = some cs.size) : (execOp a.eval o).run P w = .ok (.value (.agg cs)) w := by
  unfold execOp
  simp only [ho, hx, Instr.loadAt, Instr.sureAddr, Sem.run_bind, Sem.run_pure, Result.andThen_ok, run_loadVar_row w g t ty cs fr d hg hu hd hi]
end
theorem PSt.cnt_le {P : PSt} {m : Nat} (h : P.Le m) (j : Nat) : P.cnt j ≤ m := by
  unfold PSt.cnt
  split
  · exact h.f
  · exact h.t
  · exact h.m
  · exact h.g
  · exact h.e
  · exact h.d
  · exact h.i
/-- The three boxes of what came in. -/
structure FB (w : World) (bx ix tx : Nat) (ki a : Int) (im ft : Array Value) : Prop where
  e : Blk w bx 25 #[.int .u8 ki, .int .i64 a]
  i : Blk w ix 35 im
  t : Blk w tx 38 ft
theorem FB.kept {w w' : World} {bx ix tx : Nat} {ki a : Int} {im ft : Array Value} (h : FB w bx ix tx ki a im ft) (hk : Kept S0 w w') : FB w' bx ix tx ki a im ft := ⟨hk.blk h.e (fun x => x), hk.blk h.i (fun x => x), hk.blk h.t (fun x => x)⟩
set_option maxRecDepth 100000 in
set_option maxHeartbeats 12800000 in
theorem fits_law (A : Option Addr) (n c : Nat) (D : Nat → Int) (X : Nat → ActP) (ki a : Int) (h0 : 0 ≤ ki) (s1 s2 : ByteArray) (k fi wl wn wx : Int) (wb : Bool) (mn mx : Int) (mb : Bool) (gt : Int) (gm : Bool) (T R : Option Addr) (mp mr cp cr : Nat) (pv ru : Nat → UInt8) (w : World) (hT : TSl w T mp cp pv) (hR : TSl w R mr cr ru) (hl : ActL w A n D X) (hn : n ≤ 9223372036854775806) :
    Calls Tryz.prog 3 #[.slice A n c, .agg #[.int .u8 ki, .int .i64 a], .agg #[.string s1, .string s2, .int .u8 k, .int .u32 fi, .int .u8 wl, .int .u32 wn, .int .u32 wx, .bool wb, .int .u32 mn, .int .u32 mx, .bool mb, .int .u8 gt, .bool gm], .agg #[.slice T mp cp, .slice R mr cr]] w fun e w' => e = .returned (.bool true) ∧ Kept S0 w w' := by
  have hk0 : Kept S0 w (((w.alloc (.cells #[.int .u8 ki, .int .i64 a] 25)).alloc (.cells #[.string s1, .string s2, .int .u8 k, .int .u32 fi, .int .u8 wl, .int .u32 wn, .int .u32 wx, .bool wb, .int .u32 mn, .int .u32 mx, .bool mb, .int .u8 gt, .bool gm] 35)).alloc (.cells #[.slice T mp cp, .slice R mr cr] 38)) := (((Kept.refl S0 w).alloc _).alloc _).alloc _
  have hf := fbox_new w ki a #[.string s1, .string s2, .int .u8 k, .int .u32 fi, .int .u8 wl, .int .u32 wn, .int .u32 wx, .bool wb, .int .u32 mn, .int .u32 mx, .bool mb, .int .u8 gt, .bool gm] #[.slice T mp cp, .slice R mr cr]
  have HF := Lib.hid (show FB (((w.alloc (.cells #[.int .u8 ki, .int .i64 a] 25)).alloc (.cells #[.string s1, .string s2, .int .u8 k, .int .u32 fi, .int .u8 wl, .int .u32 wn, .int .u32 wx, .bool wb, .int .u32 mn, .int .u32 mx, .bool mb, .int .u8 gt, .bool gm] 35)).alloc (.cells #[.slice T mp cp, .slice R mr cr] 38)) w.heap.size (w.heap.size + 1) (w.heap.size + 1 + 1) ki a #[.string s1, .string s2, .int .u8 k, .int .u32 fi, .int .u8 wl, .int .u32 wn, .int .u32 wx, .bool wb, .int .u32 mn, .int .u32 mx, .bool mb, .int .u8 gt, .bool gm] #[.slice T mp cp, .slice R mr cr] from ⟨hf.e, hf.i, hf.t⟩)
  have HL := Lib.hid (hl.kept hk0)
  have HK := Lib.hid hk0
  have HT := Lib.hid hT
  have HR' := Lib.hid hR
  have H0 := Lib.hid h0
  clear hl hk0 hf hT hR h0
  go_enter Tryz.func3, Tryz.ntmps3
  go_wp2_with fail
  generalize w.heap.size + 1 + 1 = tx at *
  generalize w.heap.size + 1 = ix at *
  generalize w.heap.size = bx at *
  generalize (((w.alloc (.cells #[.int .u8 ki, .int .i64 a] 25)).alloc (.cells #[.string s1, .string s2, .int .u8 k, .int .u32 fi, .int .u8 wl, .int .u32 wn, .int .u32 wx, .bool wb, .int .u32 mn, .int .u32 mx, .bool mb, .int .u8 gt, .bool gm] 35)).alloc (.cells #[.slice T mp cp, .slice R mr cr] 38)) = w0 at *
  refine (filled_any A n c D X w0 HL.out hn).mono ?_
  rintro e w1 ⟨sb, rb, rfl, lab, v, u, P, hs, hr, hb, hP⟩
  have HS := Lib.hid hs
  have HR := Lib.hid hr
  have HF := Lib.hid (HF.out.kept hb.k)
  have HK := Lib.hid (HK.out.then0 hb.k)
  have HP := Lib.hid (hP.mono (by omega : 30 ≤ 60))
  clear hs hr hb hP HL
  go_wp2_with fail
  refine (r_sizes HR.out).mono ?_
  rintro e w2 ⟨rfl, hk⟩
  have hal : Kept S0 w1 (w2.alloc (.cells P.arr 43)) := hk.alloc _
  have HN := Lib.hid (Blk.new w2 43 P.arr)
  have HS := Lib.hid (HS.out.kept0 hal)
  have HR := Lib.hid (HR.out.kept0 hal)
  have HF := Lib.hid (HF.out.kept hal)
  have HK := Lib.hid (HK.out.then0 hal)
  clear hk hal
  have f0 : (w2.alloc (.cells P.arr 43)).cell? ⟨bx, 0, none⟩ = some (.int .u8 ki) := HF.out.e.cell 0
  have HN0 := HN
  unfold PSt.arr at f0
  obtain ⟨kk, hkk⟩ := Int.eq_ofNat_of_zero_le H0.out
  have HKK := Lib.hid hkk
  clear hkk
  by_cases hk3 : ki ≤ 3
  · have qn : (w2.alloc (.cells P.arr 43)).cell? ⟨w2.heap.size, kk, none⟩ = some (.int .i64 (P.cnt kk : Int)) := (HN.out.cell kk).trans (P.arr_at (by have := HKK.out; omega))
    have f1 : (w2.alloc (.cells P.arr 43)).cell? ⟨bx, 1, none⟩ = some (.int .i64 a) := HF.out.e.cell 1
    obtain rfl : ki = (kk : Int) := HKK.out
    have hkk7 : (kk : Int) < 7 := by omega
    have hkk0 : (0 : Int) ≤ (kk : Int) := by omega
    generalize hcn : P.cnt kk = cn at *
    have HCN := Lib.hid hcn
    clear hcn
    unfold PSt.arr at HN HS HR HF HK qn f1
    by_cases hc : 0 < cn
    · go_wp2_with fail
      generalize w2.heap.size = nb at *
      generalize (w2.alloc (.cells #[.int .i64 (P.nf : Int), .int .i64 (P.nt : Int), .int .i64 (P.nm : Int), .int .i64 (P.ng : Int), .int .i64 (P.ne : Int), .int .i64 (P.nd : Int), .int .i64 (P.ni : Int)] 43)) = wa at *
      have HCP := Lib.hid hc
      refine wp_region_R (fun w' => w'.cell? ⟨bx, 0, none⟩ = some (.int .u8 (kk : Int)) ∧ w'.cell? ⟨bx, 1, none⟩ = some (.int .i64 a) ∧ w'.cell? ⟨nb, kk, none⟩ = some (.int .i64 (cn : Int))) [14] (by kernel_rfl) ?_
      have hkd : Kept S0 wa (World.drew wa) := (Kept.refl S0 wa).drew
      have HS := Lib.hid (HS.out.kept0 hkd)
      have HR := Lib.hid (HR.out.kept0 hkd)
      have HK := Lib.hid (HK.out.then0 hkd)
      have HF := Lib.hid (HF.out.kept hkd)
      have hS : (World.drew wa).cell? ⟨bx, 0, none⟩ = some (.int .u8 (kk : Int)) ∧ (World.drew wa).cell? ⟨bx, 1, none⟩ = some (.int .i64 a) ∧ (World.drew wa).cell? ⟨nb, kk, none⟩ = some (.int .i64 (cn : Int)) := ⟨keep0 hkd f0, keep0 hkd f1, keep0 hkd qn⟩
      clear hkd f0 f1 qn
      generalize World.drew wa = v1 at *
      have hwc : IntKind.u64.wrap (cn : Int) = (cn : Int) := IntWalk.u64_in _ (by have := PSt.cnt_le HP.out kk; have := HCN.out; omega)
      have hcz : ((cn : Int) == 0) = false := by simp; omega
      have hcn : ¬ cn = 0 := by omega
      generalize hwa : IntKind.u64.wrap a = wa' at *
      (first | (refine tkR 0 (v := ?_) rfl hS ⟨by rfl, ?_⟩ ?_; rotate_left; intro w h; (try dsimp only at h); first | (go_simp; done) | (go_simp; with_reducible rfl)) | refine skR 0 rfl (fun _ => hS) (by rfl) ?_); simp only [zq1, zq2, Act.put, zq4, zq5, zq6]
      (first | (refine tkR 1 (v := ?_) rfl hS ⟨by rfl, ?_⟩ ?_; rotate_left; intro w h; (try dsimp only at h); first | (go_simp; done) | (go_simp; with_reducible rfl)) | refine skR 1 rfl (fun _ => hS) (by rfl) ?_); simp only [zq1, zq2, zq3, Act.put, zq4, zq5, zq6]
      (first | (refine tkR 2 (v := ?_) rfl hS ⟨by rfl, ?_⟩ ?_; rotate_left; intro w h; (try dsimp only at h); first | (go_simp; done) | (go_simp; with_reducible rfl)) | refine skR 2 rfl (fun _ => hS) (by rfl) ?_); simp only [zq1, zq2, zq3, Act.put, zq4, zq5, zq6]
      (first | (refine tkR 3 (v := ?_) rfl hS ⟨by rfl, ?_⟩ ?_; rotate_left; intro w h; (try dsimp only at h); first | (go_simp; done) | (go_simp; with_reducible rfl)) | refine skR 3 rfl (fun _ => hS) (by rfl) ?_); simp only [zq1, zq2, zq3, Act.put, zq4, zq5, zq6]
      (first | (refine tkR 4 (v := ?_) rfl hS ⟨by rfl, ?_⟩ ?_; rotate_left; intro w h; (try dsimp only at h); first | (go_simp; done) | (go_simp; with_reducible rfl)) | refine skR 4 rfl (fun _ => hS) (by rfl) ?_); simp only [zq1, zq2, zq3, Act.put, zq4, zq5, zq6]
      (first | (refine tkR 5 (v := ?_) rfl hS ⟨by rfl, ?_⟩ ?_; rotate_left; intro w h; (try dsimp only at h); first | (go_simp; done) | (go_simp; with_reducible rfl)) | refine skR 5 rfl (fun _ => hS) (by rfl) ?_); simp only [zq1, zq2, zq3, Act.put, zq4, zq5, zq6]
      (first | (refine tkR 6 (v := ?_) rfl hS ⟨by rfl, ?_⟩ ?_; rotate_left; intro w h; (try dsimp only at h); first | (go_simp; done) | (go_simp; with_reducible rfl)) | refine skR 6 rfl (fun _ => hS) (by rfl) ?_); simp only [zq1, zq2, zq3, Act.put, zq4, zq5, zq6]
      (first | (refine tkR 7 (v := ?_) rfl hS ⟨by rfl, ?_⟩ ?_; rotate_left; intro w h; (try dsimp only at h); first | (go_simp; done) | (go_simp; with_reducible rfl)) | refine skR 7 rfl (fun _ => hS) (by rfl) ?_); simp only [zq1, zq2, zq3, Act.put, zq4, zq5, zq6]
      (first | (refine tkR 8 (v := ?_) rfl hS ⟨by rfl, ?_⟩ ?_; rotate_left; intro w h; (try dsimp only at h); first | (go_simp; done) | (go_simp; with_reducible rfl)) | refine skR 8 rfl (fun _ => hS) (by rfl) ?_); simp only [zq1, zq2, zq3, Act.put, zq4, zq5, zq6]
      (first | (refine tkR 9 (v := ?_) rfl hS ⟨by rfl, ?_⟩ ?_; rotate_left; intro w h; (try dsimp only at h); first | (go_simp; done) | (go_simp; with_reducible rfl)) | refine skR 9 rfl (fun _ => hS) (by rfl) ?_); simp only [zq1, zq2, zq3, Act.put, zq4, zq5, zq6]
      (first | (refine tkR 10 (v := ?_) rfl hS ⟨by rfl, ?_⟩ ?_; rotate_left; intro w h; (try dsimp only at h); first | (go_simp; done) | (go_simp; with_reducible rfl)) | refine skR 10 rfl (fun _ => hS) (by rfl) ?_); simp only [zq1, zq2, zq3, Act.put, zq4, zq5, zq6]
      (first | (refine tkR 11 (v := ?_) rfl hS ⟨by rfl, ?_⟩ ?_; rotate_left; intro w h; (try dsimp only at h); first | (go_simp; done) | (go_simp; with_reducible rfl)) | refine skR 11 rfl (fun _ => hS) (by rfl) ?_); simp only [zq1, zq2, zq3, Act.put, zq4, zq5, zq6]
      (first | (refine tkR 12 (v := ?_) rfl hS ⟨by rfl, ?_⟩ ?_; rotate_left; intro w h; (try dsimp only at h); first | (go_simp; done) | (go_simp; with_reducible rfl)) | refine skR 12 rfl (fun _ => hS) (by rfl) ?_); simp only [zq1, zq2, zq3, Act.put, zq4, zq5, zq6]
      refine wpAnyR_one 13 rfl (by kernel_rfl) (fun K hK => ?_)
      go_simp
      have hal : Kept S0 v1 (v1.alloc (.cells #[.int .u8 0, .int .i64 0] 25)) := (Kept.refl S0 v1).alloc _
      have hS2 : (v1.alloc (.cells #[.int .u8 0, .int .i64 0] 25)).cell? ⟨bx, 0, none⟩ = some (.int .u8 (kk : Int)) ∧ (v1.alloc (.cells #[.int .u8 0, .int .i64 0] 25)).cell? ⟨bx, 1, none⟩ = some (.int .i64 a) ∧ (v1.alloc (.cells #[.int .u8 0, .int .i64 0] 25)).cell? ⟨nb, kk, none⟩ = some (.int .i64 (cn : Int)) := ⟨keep0 hal hS.1, keep0 hal hS.2.1, keep0 hal hS.2.2⟩
      have HY := Lib.hid (Blk.new v1 25 #[.int .u8 0, .int .i64 0])
      refine hK.out _ _ (fun _ => hS2) ?_
      clear hK K hS hal hwc hcz
      have hy0 := HY.out.frozen 0
      have hy1 := HY.out.frozen 1
      have hyc0 := HY.out.cell 0
      have hyc1 := HY.out.cell 1
      refine wpAnyR_one 14 rfl (by kernel_rfl) (fun K hK => ?_)
      go_simp
      clear hy0 hy1 hyc0 hyc1 HY hS2
      generalize IntKind.i64.wrap (Int.tmod wa' (cn : Int)) = z at *
      have hal : Kept S0 v1 (v1.alloc (.cells #[.int .u8 (kk : Int), .int .i64 z] 25)) := (Kept.refl S0 v1).alloc _
      have HY := Lib.hid (show FB (v1.alloc (.cells #[.int .u8 (kk : Int), .int .i64 z] 25)) v1.heap.size ix tx (kk : Int) z #[.string s1, .string s2, .int .u8 k, .int .u32 fi, .int .u8 wl, .int .u32 wn, .int .u32 wx, .bool wb, .int .u32 mn, .int .u32 mx, .bool mb, .int .u8 gt, .bool gm] #[.slice T mp cp, .slice R mr cr] from ⟨Blk.new v1 25 #[.int .u8 (kk : Int), .int .i64 z], (HF.out.kept hal).i, (HF.out.kept hal).t⟩)
      have HS := Lib.hid (HS.out.kept0 hal)
      have HR := Lib.hid (HR.out.kept0 hal)
      have HK := Lib.hid (HK.out.then0 hal)
      have HF := Lib.hid (HF.out.kept hal)
      refine hK.out _ _ (fun h => absurd h (by decide)) ?_
      clear hK K hal
      generalize v1.heap.size = yb at *
      generalize (v1.alloc (.cells #[.int .u8 (kk : Int), .int .i64 z] 25)) = y0 at *
      refine wpAnyR_done (by kernel_rfl) ?_ _
      go_wp2_with fail
      refine wp_region_R (fun w' => FB w' yb ix tx (kk : Int) z #[.string s1, .string s2, .int .u8 k, .int .u32 fi, .int .u8 wl, .int .u32 wn, .int .u32 wx, .bool wb, .int .u32 mn, .int .u32 mx, .bool mb, .int .u8 gt, .bool gm] #[.slice T mp cp, .slice R mr cr]) [] (by kernel_rfl) ?_
      have hkd : Kept S0 y0 (World.drew y0) := (Kept.refl S0 y0).drew
      have HS := Lib.hid (HS.out.kept0 hkd)
      have HR := Lib.hid (HR.out.kept0 hkd)
      have HK := Lib.hid (HK.out.then0 hkd)
      have hS := HY.out.kept hkd
      have HF := Lib.hid (HF.out.kept hkd)
      clear hkd
      generalize World.drew y0 = y1 at *
      refine tkR 0 (v := ?_) rfl hS ⟨by rfl, ?_⟩ ?_
      rotate_left; (intro w hSw; (try dsimp only at hSw); first | (go_simp; done) | (go_simp; with_reducible rfl))
      simp only [zq1, zq2, Act.put, zq4, zq5, zq6]
      refine tkR 1 (v := .agg #[.int .u8 (kk : Int), .int .i64 z]) rfl hS ⟨by rfl, fun w hSw => exec_load_row 25 _ rfl w _ rfl 25 #[.int .u8 (kk : Int), .int .i64 z] (0, 0) _ hSw.e Tryz.underlying25 rfl (by kernel_rfl)⟩ ?_; simp only [zq1, zq2, zq3, Act.put, zq4, zq5, zq6]
      refine tkR 2 (v := .agg #[.string s1, .string s2, .int .u8 k, .int .u32 fi, .int .u8 wl, .int .u32 wn, .int .u32 wx, .bool wb, .int .u32 mn, .int .u32 mx, .bool mb, .int .u8 gt, .bool gm]) rfl hS ⟨by rfl, fun w hSw => exec_load_row 35 _ rfl w _ rfl 35 #[.string s1, .string s2, .int .u8 k, .int .u32 fi, .int .u8 wl, .int .u32 wn, .int .u32 wx, .bool wb, .int .u32 mn, .int .u32 mx, .bool mb, .int .u8 gt, .bool gm] (0, 0) _ hSw.i Tryz.underlying35 rfl (by kernel_rfl)⟩ ?_; simp only [zq1, zq2, zq3, Act.put, zq4, zq5, zq6]
      refine tkR 3 (v := .agg #[.slice T mp cp, .slice R mr cr]) rfl hS ⟨by rfl, fun w hSw => exec_load_row 38 _ rfl w _ rfl 38 #[.slice T mp cp, .slice R mr cr] (0, 0) _ hSw.t Tryz.underlying38 rfl (by kernel_rfl)⟩ ?_; simp only [zq1, zq2, zq3, Act.put, zq4, zq5, zq6]
      refine tkR 5 (v := ?_) rfl hS ⟨by rfl, ?_⟩ ?_
      rotate_left; (intro w hSw; (try dsimp only at hSw); first | (go_simp; done) | (go_simp; with_reducible rfl))
      simp only [zq1, zq2, zq3, Act.put, zq4, zq5, zq6]
      refine tkR 6 (v := .agg #[.int .u8 (kk : Int), .int .i64 z]) rfl hS ⟨by rfl, fun w hSw => exec_load_row 25 _ rfl w _ rfl 25 #[.int .u8 (kk : Int), .int .i64 z] (0, 0) _ hSw.e Tryz.underlying25 rfl (by kernel_rfl)⟩ ?_; simp only [zq1, zq2, zq3, Act.put, zq4, zq5, zq6]
      refine tkR 7 (v := .agg #[.string s1, .string s2, .int .u8 k, .int .u32 fi, .int .u8 wl, .int .u32 wn, .int .u32 wx, .bool wb, .int .u32 mn, .int .u32 mx, .bool mb, .int .u8 gt, .bool gm]) rfl hS ⟨by rfl, fun w hSw => exec_load_row 35 _ rfl w _ rfl 35 #[.string s1, .string s2, .int .u8 k, .int .u32 fi, .int .u8 wl, .int .u32 wn, .int .u32 wx, .bool wb, .int .u32 mn, .int .u32 mx, .bool mb, .int .u8 gt, .bool gm] (0, 0) _ hSw.i Tryz.underlying35 rfl (by kernel_rfl)⟩ ?_; simp only [zq1, zq2, zq3, Act.put, zq4, zq5, zq6]
      refine tkR 8 (v := .agg #[.slice T mp cp, .slice R mr cr]) rfl hS ⟨by rfl, fun w hSw => exec_load_row 38 _ rfl w _ rfl 38 #[.slice T mp cp, .slice R mr cr] (0, 0) _ hSw.t Tryz.underlying38 rfl (by kernel_rfl)⟩ ?_; simp only [zq1, zq2, zq3, Act.put, zq4, zq5, zq6]
      refine wpAnyR_one 4 rfl (by kernel_rfl) (fun K hK => ?_)
      go_simp
      go_at_call 10
      refine (fits_at HS.out HP.out (kk : Int) z H0.out s1 s2 k fi wl wn wx wb mn mx mb gt gm T R mp mr cp cr pv ru (HT.out.kept HK.out) (HR'.out.kept HK.out)).mono ?_
      rintro e y2 ⟨rfl, hk2⟩
      have hS2 := hS.kept hk2
      have HS := Lib.hid (HS.out.kept0 hk2)
      have HR := Lib.hid (HR.out.kept0 hk2)
      have HK := Lib.hid (HK.out.then0 hk2)
      have HF := Lib.hid (HF.out.kept hk2)
      refine hK.out _ _ (fun _ => hS2) ?_
      clear hK K hS hk2
      refine wpAnyR_one 9 rfl (by kernel_rfl) (fun K hK => ?_)
      go_simp
      go_at_call 11
      refine (rfits_at HR.out HP.out (kk : Int) z H0.out s1 s2 k fi wl wn wx wb mn mx mb gt gm T R mp mr cp cr pv ru (HT.out.kept HK.out) (HR'.out.kept HK.out)).mono ?_
      rintro e y3 ⟨rfl, hk3⟩
      have hS3 := hS2.kept hk3
      have HS := Lib.hid (HS.out.kept0 hk3)
      have HR := Lib.hid (HR.out.kept0 hk3)
      have HK := Lib.hid (HK.out.then0 hk3)
      have HF := Lib.hid (HF.out.kept hk3)
      refine hK.out _ _ (fun _ => hS3) ?_
      clear hK K hS2 hk3
      generalize fitsP P (kk : Int) z k wl wn wx wb mn mx mb gt gm mp mr pv ru = fry
      (first | (refine tkR 10 (v := ?_) rfl hS3 ⟨by rfl, ?_⟩ ?_; rotate_left; intro w h; (try dsimp only at h); first | (go_simp; done) | (go_simp; with_reducible rfl)) | refine skR 10 rfl (fun _ => hS3) (by rfl) ?_); simp only [zq1, zq2, zq3, Act.put, zq4, zq5, zq6]
      refine wpAnyR_done (by kernel_rfl) ?_ _
      clear hS3
      go_wp2_with fail
      refine wp_region_R (fun w' => FB w' bx ix tx (kk : Int) a #[.string s1, .string s2, .int .u8 k, .int .u32 fi, .int .u8 wl, .int .u32 wn, .int .u32 wx, .bool wb, .int .u32 mn, .int .u32 mx, .bool mb, .int .u8 gt, .bool gm] #[.slice T mp cp, .slice R mr cr]) [] (by kernel_rfl) ?_
      have hkd : Kept S0 y3 (World.drew y3) := (Kept.refl S0 y3).drew
      have HS := Lib.hid (HS.out.kept0 hkd)
      have HR := Lib.hid (HR.out.kept0 hkd)
      have HK := Lib.hid (HK.out.then0 hkd)
      have hS := HF.out.kept hkd
      clear hkd
      generalize World.drew y3 = v1 at *
      refine tkR 0 (v := ?_) rfl hS ⟨by rfl, ?_⟩ ?_
      rotate_left; (intro w hSw; (try dsimp only at hSw); first | (go_simp; done) | (go_simp; with_reducible rfl))
      simp only [zq1, zq2, Act.put, zq4, zq5, zq6]
      refine tkR 1 (v := .agg #[.int .u8 (kk : Int), .int .i64 a]) rfl hS ⟨by rfl, fun w hSw => exec_load_row 25 _ rfl w _ rfl 25 #[.int .u8 (kk : Int), .int .i64 a] (0, 0) _ hSw.e Tryz.underlying25 rfl (by kernel_rfl)⟩ ?_; simp only [zq1, zq2, zq3, Act.put, zq4, zq5, zq6]
      refine tkR 2 (v := .agg #[.string s1, .string s2, .int .u8 k, .int .u32 fi, .int .u8 wl, .int .u32 wn, .int .u32 wx, .bool wb, .int .u32 mn, .int .u32 mx, .bool mb, .int .u8 gt, .bool gm]) rfl hS ⟨by rfl, fun w hSw => exec_load_row 35 _ rfl w _ rfl 35 #[.string s1, .string s2, .int .u8 k, .int .u32 fi, .int .u8 wl, .int .u32 wn, .int .u32 wx, .bool wb, .int .u32 mn, .int .u32 mx, .bool mb, .int .u8 gt, .bool gm] (0, 0) _ hSw.i Tryz.underlying35 rfl (by kernel_rfl)⟩ ?_; simp only [zq1, zq2, zq3, Act.put, zq4, zq5, zq6]
      refine tkR 3 (v := .agg #[.slice T mp cp, .slice R mr cr]) rfl hS ⟨by rfl, fun w hSw => exec_load_row 38 _ rfl w _ rfl 38 #[.slice T mp cp, .slice R mr cr] (0, 0) _ hSw.t Tryz.underlying38 rfl (by kernel_rfl)⟩ ?_; simp only [zq1, zq2, zq3, Act.put, zq4, zq5, zq6]
      refine tkR 5 (v := ?_) rfl hS ⟨by rfl, ?_⟩ ?_
      rotate_left; (intro w hSw; (try dsimp only at hSw); first | (go_simp; done) | (go_simp; with_reducible rfl))
      simp only [zq1, zq2, zq3, Act.put, zq4, zq5, zq6]
      refine tkR 6 (v := .agg #[.int .u8 (kk : Int), .int .i64 a]) rfl hS ⟨by rfl, fun w hSw => exec_load_row 25 _ rfl w _ rfl 25 #[.int .u8 (kk : Int), .int .i64 a] (0, 0) _ hSw.e Tryz.underlying25 rfl (by kernel_rfl)⟩ ?_; simp only [zq1, zq2, zq3, Act.put, zq4, zq5, zq6]
      refine tkR 7 (v := .agg #[.string s1, .string s2, .int .u8 k, .int .u32 fi, .int .u8 wl, .int .u32 wn, .int .u32 wx, .bool wb, .int .u32 mn, .int .u32 mx, .bool mb, .int .u8 gt, .bool gm]) rfl hS ⟨by rfl, fun w hSw => exec_load_row 35 _ rfl w _ rfl 35 #[.string s1, .string s2, .int .u8 k, .int .u32 fi, .int .u8 wl, .int .u32 wn, .int .u32 wx, .bool wb, .int .u32 mn, .int .u32 mx, .bool mb, .int .u8 gt, .bool gm] (0, 0) _ hSw.i Tryz.underlying35 rfl (by kernel_rfl)⟩ ?_; simp only [zq1, zq2, zq3, Act.put, zq4, zq5, zq6]
      refine tkR 8 (v := .agg #[.slice T mp cp, .slice R mr cr]) rfl hS ⟨by rfl, fun w hSw => exec_load_row 38 _ rfl w _ rfl 38 #[.slice T mp cp, .slice R mr cr] (0, 0) _ hSw.t Tryz.underlying38 rfl (by kernel_rfl)⟩ ?_; simp only [zq1, zq2, zq3, Act.put, zq4, zq5, zq6]
      refine wpAnyR_one 4 rfl (by kernel_rfl) (fun K hK => ?_)
      go_simp
      go_at_call 10
      refine (fits_at HS.out HP.out (kk : Int) a H0.out s1 s2 k fi wl wn wx wb mn mx mb gt gm T R mp mr cp cr pv ru (HT.out.kept HK.out) (HR'.out.kept HK.out)).mono ?_
      rintro e v2 ⟨rfl, hk2⟩
      have hS2 := hS.kept hk2
      have HS := Lib.hid (HS.out.kept0 hk2)
      have HR := Lib.hid (HR.out.kept0 hk2)
      have HK := Lib.hid (HK.out.then0 hk2)
      refine hK.out _ _ (fun _ => hS2) ?_
      clear hK K hS hk2
      refine wpAnyR_one 9 rfl (by kernel_rfl) (fun K hK => ?_)
      go_simp
      go_at_call 11
      refine (rfits_at HR.out HP.out (kk : Int) a H0.out s1 s2 k fi wl wn wx wb mn mx mb gt gm T R mp mr cp cr pv ru (HT.out.kept HK.out) (HR'.out.kept HK.out)).mono ?_
      rintro e v3 ⟨rfl, hk3⟩
      have hS3 := hS2.kept hk3
      have HS := Lib.hid (HS.out.kept0 hk3)
      have HR := Lib.hid (HR.out.kept0 hk3)
      have HK := Lib.hid (HK.out.then0 hk3)
      refine hK.out _ _ (fun _ => hS3) ?_
      clear hK K hS2 hk3
      generalize fitsP P (kk : Int) a k wl wn wx wb mn mx mb gt gm mp mr pv ru = frv
      (first | (refine tkR 10 (v := ?_) rfl hS3 ⟨by rfl, ?_⟩ ?_; rotate_left; intro w h; (try dsimp only at h); first | (go_simp; done) | (go_simp; with_reducible rfl)) | refine skR 10 rfl (fun _ => hS3) (by rfl) ?_); simp only [zq1, zq2, zq3, Act.put, zq4, zq5, zq6]
      (first | (refine tkR 11 (v := ?_) rfl hS3 ⟨by rfl, ?_⟩ ?_; rotate_left; intro w h; (try dsimp only at h); first | (go_simp; done) | (go_simp; with_reducible rfl)) | refine skR 11 rfl (fun _ => hS3) (by rfl) ?_); simp only [zq1, zq2, zq3, Act.put, zq4, zq5, zq6]
      refine wpAnyR_one 12 rfl (by kernel_rfl) (fun K hK => ?_)
      go_simp
      go_at_call 12
      refine (lives_any _).mono ?_
      rintro e v4 ⟨rfl, hk4⟩
      have hS4 := hS3.kept hk4
      have HK4 := Lib.hid (HK.out.then0 hk4)
      refine hK.out _ _ (fun _ => hS4) ?_
      clear hK K hS3 hk4
      (first | (refine tkR 13 (v := ?_) rfl hS4 ⟨by rfl, ?_⟩ ?_; rotate_left; intro w h; (try dsimp only at h); first | (go_simp; done) | (go_simp; with_reducible rfl)) | refine skR 13 rfl (fun _ => hS4) (by rfl) ?_); simp only [zq1, zq2, zq3, Act.put, zq4, zq5, zq6]
      (first | (refine tkR 14 (v := ?_) rfl hS4 ⟨by rfl, ?_⟩ ?_; rotate_left; intro w h; (try dsimp only at h); first | (go_simp; done) | (go_simp; with_reducible rfl)) | refine skR 14 rfl (fun _ => hS4) (by rfl) ?_); simp only [zq1, zq2, zq3, Act.put, zq4, zq5, zq6]
      refine wpAnyR_done (by kernel_rfl) ?_ _
      go_wp2_with fail
      go_ret
      exact ⟨rfl, HK4.out⟩
    · obtain rfl : cn = 0 := by omega
      go_wp2_with fail
      generalize w2.heap.size = nb at *
      generalize (w2.alloc (.cells #[.int .i64 (P.nf : Int), .int .i64 (P.nt : Int), .int .i64 (P.nm : Int), .int .i64 (P.ng : Int), .int .i64 (P.ne : Int), .int .i64 (P.nd : Int), .int .i64 (P.ni : Int)] 43)) = wa at *
      refine wp_region_R (fun w' => FB w' bx ix tx (kk : Int) a #[.string s1, .string s2, .int .u8 k, .int .u32 fi, .int .u8 wl, .int .u32 wn, .int .u32 wx, .bool wb, .int .u32 mn, .int .u32 mx, .bool mb, .int .u8 gt, .bool gm] #[.slice T mp cp, .slice R mr cr]) [] (by kernel_rfl) ?_
      have hkd : Kept S0 wa (World.drew wa) := (Kept.refl S0 wa).drew
      have HS := Lib.hid (HS.out.kept0 hkd)
      have HR := Lib.hid (HR.out.kept0 hkd)
      have HK := Lib.hid (HK.out.then0 hkd)
      have hS := HF.out.kept hkd
      clear hkd
      generalize World.drew wa = v1 at *
      refine tkR 0 (v := ?_) rfl hS ⟨by rfl, ?_⟩ ?_
      rotate_left; (intro w hSw; (try dsimp only at hSw); first | (go_simp; done) | (go_simp; with_reducible rfl))
      simp only [zq1, zq2, Act.put, zq4, zq5, zq6]
      refine tkR 1 (v := .agg #[.int .u8 (kk : Int), .int .i64 a]) rfl hS ⟨by rfl, fun w hSw => exec_load_row 25 _ rfl w _ rfl 25 #[.int .u8 (kk : Int), .int .i64 a] (0, 0) _ hSw.e Tryz.underlying25 rfl (by kernel_rfl)⟩ ?_; simp only [zq1, zq2, zq3, Act.put, zq4, zq5, zq6]
      refine tkR 2 (v := .agg #[.string s1, .string s2, .int .u8 k, .int .u32 fi, .int .u8 wl, .int .u32 wn, .int .u32 wx, .bool wb, .int .u32 mn, .int .u32 mx, .bool mb, .int .u8 gt, .bool gm]) rfl hS ⟨by rfl, fun w hSw => exec_load_row 35 _ rfl w _ rfl 35 #[.string s1, .string s2, .int .u8 k, .int .u32 fi, .int .u8 wl, .int .u32 wn, .int .u32 wx, .bool wb, .int .u32 mn, .int .u32 mx, .bool mb, .int .u8 gt, .bool gm] (0, 0) _ hSw.i Tryz.underlying35 rfl (by kernel_rfl)⟩ ?_; simp only [zq1, zq2, zq3, Act.put, zq4, zq5, zq6]
      refine tkR 3 (v := .agg #[.slice T mp cp, .slice R mr cr]) rfl hS ⟨by rfl, fun w hSw => exec_load_row 38 _ rfl w _ rfl 38 #[.slice T mp cp, .slice R mr cr] (0, 0) _ hSw.t Tryz.underlying38 rfl (by kernel_rfl)⟩ ?_; simp only [zq1, zq2, zq3, Act.put, zq4, zq5, zq6]
      refine tkR 5 (v := ?_) rfl hS ⟨by rfl, ?_⟩ ?_
      rotate_left; (intro w hSw; (try dsimp only at hSw); first | (go_simp; done) | (go_simp; with_reducible rfl))
      simp only [zq1, zq2, zq3, Act.put, zq4, zq5, zq6]
      refine tkR 6 (v := .agg #[.int .u8 (kk : Int), .int .i64 a]) rfl hS ⟨by rfl, fun w hSw => exec_load_row 25 _ rfl w _ rfl 25 #[.int .u8 (kk : Int), .int .i64 a] (0, 0) _ hSw.e Tryz.underlying25 rfl (by kernel_rfl)⟩ ?_; simp only [zq1, zq2, zq3, Act.put, zq4, zq5, zq6]
      refine tkR 7 (v := .agg #[.string s1, .string s2, .int .u8 k, .int .u32 fi, .int .u8 wl, .int .u32 wn, .int .u32 wx, .bool wb, .int .u32 mn, .int .u32 mx, .bool mb, .int .u8 gt, .bool gm]) rfl hS ⟨by rfl, fun w hSw => exec_load_row 35 _ rfl w _ rfl 35 #[.string s1, .string s2, .int .u8 k, .int .u32 fi, .int .u8 wl, .int .u32 wn, .int .u32 wx, .bool wb, .int .u32 mn, .int .u32 mx, .bool mb, .int .u8 gt, .bool gm] (0, 0) _ hSw.i Tryz.underlying35 rfl (by kernel_rfl)⟩ ?_; simp only [zq1, zq2, zq3, Act.put, zq4, zq5, zq6]
      refine tkR 8 (v := .agg #[.slice T mp cp, .slice R mr cr]) rfl hS ⟨by rfl, fun w hSw => exec_load_row 38 _ rfl w _ rfl 38 #[.slice T mp cp, .slice R mr cr] (0, 0) _ hSw.t Tryz.underlying38 rfl (by kernel_rfl)⟩ ?_; simp only [zq1, zq2, zq3, Act.put, zq4, zq5, zq6]
      refine wpAnyR_one 4 rfl (by kernel_rfl) (fun K hK => ?_)
      go_simp
      go_at_call 10
      refine (fits_at HS.out HP.out (kk : Int) a H0.out s1 s2 k fi wl wn wx wb mn mx mb gt gm T R mp mr cp cr pv ru (HT.out.kept HK.out) (HR'.out.kept HK.out)).mono ?_
      rintro e v2 ⟨rfl, hk2⟩
      have hS2 := hS.kept hk2
      have HS := Lib.hid (HS.out.kept0 hk2)
      have HR := Lib.hid (HR.out.kept0 hk2)
      have HK := Lib.hid (HK.out.then0 hk2)
      refine hK.out _ _ (fun _ => hS2) ?_
      clear hK K hS hk2
      refine wpAnyR_one 9 rfl (by kernel_rfl) (fun K hK => ?_)
      go_simp
      go_at_call 11
      refine (rfits_at HR.out HP.out (kk : Int) a H0.out s1 s2 k fi wl wn wx wb mn mx mb gt gm T R mp mr cp cr pv ru (HT.out.kept HK.out) (HR'.out.kept HK.out)).mono ?_
      rintro e v3 ⟨rfl, hk3⟩
      have hS3 := hS2.kept hk3
      have HS := Lib.hid (HS.out.kept0 hk3)
      have HR := Lib.hid (HR.out.kept0 hk3)
      have HK := Lib.hid (HK.out.then0 hk3)
      refine hK.out _ _ (fun _ => hS3) ?_
      clear hK K hS2 hk3
      generalize fitsP P (kk : Int) a k wl wn wx wb mn mx mb gt gm mp mr pv ru = frv
      (first | (refine tkR 10 (v := ?_) rfl hS3 ⟨by rfl, ?_⟩ ?_; rotate_left; intro w h; (try dsimp only at h); first | (go_simp; done) | (go_simp; with_reducible rfl)) | refine skR 10 rfl (fun _ => hS3) (by rfl) ?_); simp only [zq1, zq2, zq3, Act.put, zq4, zq5, zq6]
      (first | (refine tkR 11 (v := ?_) rfl hS3 ⟨by rfl, ?_⟩ ?_; rotate_left; intro w h; (try dsimp only at h); first | (go_simp; done) | (go_simp; with_reducible rfl)) | refine skR 11 rfl (fun _ => hS3) (by rfl) ?_); simp only [zq1, zq2, zq3, Act.put, zq4, zq5, zq6]
      refine wpAnyR_one 12 rfl (by kernel_rfl) (fun K hK => ?_)
      go_simp
      go_at_call 12
      refine (lives_any _).mono ?_
      rintro e v4 ⟨rfl, hk4⟩
      have hS4 := hS3.kept hk4
      have HK4 := Lib.hid (HK.out.then0 hk4)
      refine hK.out _ _ (fun _ => hS4) ?_
      clear hK K hS3 hk4
      (first | (refine tkR 13 (v := ?_) rfl hS4 ⟨by rfl, ?_⟩ ?_; rotate_left; intro w h; (try dsimp only at h); first | (go_simp; done) | (go_simp; with_reducible rfl)) | refine skR 13 rfl (fun _ => hS4) (by rfl) ?_); simp only [zq1, zq2, zq3, Act.put, zq4, zq5, zq6]
      (first | (refine tkR 14 (v := ?_) rfl hS4 ⟨by rfl, ?_⟩ ?_; rotate_left; intro w h; (try dsimp only at h); first | (go_simp; done) | (go_simp; with_reducible rfl)) | refine skR 14 rfl (fun _ => hS4) (by rfl) ?_); simp only [zq1, zq2, zq3, Act.put, zq4, zq5, zq6]
      refine wpAnyR_done (by kernel_rfl) ?_ _
      go_wp2_with fail
      go_ret
      exact ⟨rfl, HK4.out⟩
  · unfold PSt.arr at HN HS HR HF HK
    go_wp2_with fail
    generalize w2.heap.size = nb at *
    generalize (w2.alloc (.cells #[.int .i64 (P.nf : Int), .int .i64 (P.nt : Int), .int .i64 (P.nm : Int), .int .i64 (P.ng : Int), .int .i64 (P.ne : Int), .int .i64 (P.nd : Int), .int .i64 (P.ni : Int)] 43)) = wa at *
    refine wp_region_R (fun w' => FB w' bx ix tx ki a #[.string s1, .string s2, .int .u8 k, .int .u32 fi, .int .u8 wl, .int .u32 wn, .int .u32 wx, .bool wb, .int .u32 mn, .int .u32 mx, .bool mb, .int .u8 gt, .bool gm] #[.slice T mp cp, .slice R mr cr]) [] (by kernel_rfl) ?_
    have hkd : Kept S0 wa (World.drew wa) := (Kept.refl S0 wa).drew
    have HS := Lib.hid (HS.out.kept0 hkd)
    have HR := Lib.hid (HR.out.kept0 hkd)
    have HK := Lib.hid (HK.out.then0 hkd)
    have hS := HF.out.kept hkd
    clear hkd
    generalize World.drew wa = v1 at *
    refine tkR 0 (v := ?_) rfl hS ⟨by rfl, ?_⟩ ?_
    rotate_left; (intro w hSw; (try dsimp only at hSw); first | (go_simp; done) | (go_simp; with_reducible rfl))
    simp only [zq1, zq2, Act.put, zq4, zq5, zq6]
    refine tkR 1 (v := .agg #[.int .u8 ki, .int .i64 a]) rfl hS ⟨by rfl, fun w hSw => exec_load_row 25 _ rfl w _ rfl 25 #[.int .u8 ki, .int .i64 a] (0, 0) _ hSw.e Tryz.underlying25 rfl (by kernel_rfl)⟩ ?_; simp only [zq1, zq2, zq3, Act.put, zq4, zq5, zq6]
    refine tkR 2 (v := .agg #[.string s1, .string s2, .int .u8 k, .int .u32 fi, .int .u8 wl, .int .u32 wn, .int .u32 wx, .bool wb, .int .u32 mn, .int .u32 mx, .bool mb, .int .u8 gt, .bool gm]) rfl hS ⟨by rfl, fun w hSw => exec_load_row 35 _ rfl w _ rfl 35 #[.string s1, .string s2, .int .u8 k, .int .u32 fi, .int .u8 wl, .int .u32 wn, .int .u32 wx, .bool wb, .int .u32 mn, .int .u32 mx, .bool mb, .int .u8 gt, .bool gm] (0, 0) _ hSw.i Tryz.underlying35 rfl (by kernel_rfl)⟩ ?_; simp only [zq1, zq2, zq3, Act.put, zq4, zq5, zq6]
    refine tkR 3 (v := .agg #[.slice T mp cp, .slice R mr cr]) rfl hS ⟨by rfl, fun w hSw => exec_load_row 38 _ rfl w _ rfl 38 #[.slice T mp cp, .slice R mr cr] (0, 0) _ hSw.t Tryz.underlying38 rfl (by kernel_rfl)⟩ ?_; simp only [zq1, zq2, zq3, Act.put, zq4, zq5, zq6]
    refine tkR 5 (v := ?_) rfl hS ⟨by rfl, ?_⟩ ?_
    rotate_left; (intro w hSw; (try dsimp only at hSw); first | (go_simp; done) | (go_simp; with_reducible rfl))
    simp only [zq1, zq2, zq3, Act.put, zq4, zq5, zq6]
    refine tkR 6 (v := .agg #[.int .u8 ki, .int .i64 a]) rfl hS ⟨by rfl, fun w hSw => exec_load_row 25 _ rfl w _ rfl 25 #[.int .u8 ki, .int .i64 a] (0, 0) _ hSw.e Tryz.underlying25 rfl (by kernel_rfl)⟩ ?_; simp only [zq1, zq2, zq3, Act.put, zq4, zq5, zq6]
    refine tkR 7 (v := .agg #[.string s1, .string s2, .int .u8 k, .int .u32 fi, .int .u8 wl, .int .u32 wn, .int .u32 wx, .bool wb, .int .u32 mn, .int .u32 mx, .bool mb, .int .u8 gt, .bool gm]) rfl hS ⟨by rfl, fun w hSw => exec_load_row 35 _ rfl w _ rfl 35 #[.string s1, .string s2, .int .u8 k, .int .u32 fi, .int .u8 wl, .int .u32 wn, .int .u32 wx, .bool wb, .int .u32 mn, .int .u32 mx, .bool mb, .int .u8 gt, .bool gm] (0, 0) _ hSw.i Tryz.underlying35 rfl (by kernel_rfl)⟩ ?_; simp only [zq1, zq2, zq3, Act.put, zq4, zq5, zq6]
    refine tkR 8 (v := .agg #[.slice T mp cp, .slice R mr cr]) rfl hS ⟨by rfl, fun w hSw => exec_load_row 38 _ rfl w _ rfl 38 #[.slice T mp cp, .slice R mr cr] (0, 0) _ hSw.t Tryz.underlying38 rfl (by kernel_rfl)⟩ ?_; simp only [zq1, zq2, zq3, Act.put, zq4, zq5, zq6]
    refine wpAnyR_one 4 rfl (by kernel_rfl) (fun K hK => ?_)
    go_simp
    go_at_call 10
    refine (fits_at HS.out HP.out ki a H0.out s1 s2 k fi wl wn wx wb mn mx mb gt gm T R mp mr cp cr pv ru (HT.out.kept HK.out) (HR'.out.kept HK.out)).mono ?_
    rintro e v2 ⟨rfl, hk2⟩
    have hS2 := hS.kept hk2
    have HS := Lib.hid (HS.out.kept0 hk2)
    have HR := Lib.hid (HR.out.kept0 hk2)
    have HK := Lib.hid (HK.out.then0 hk2)
    refine hK.out _ _ (fun _ => hS2) ?_
    clear hK K hS hk2
    refine wpAnyR_one 9 rfl (by kernel_rfl) (fun K hK => ?_)
    go_simp
    go_at_call 11
    refine (rfits_at HR.out HP.out ki a H0.out s1 s2 k fi wl wn wx wb mn mx mb gt gm T R mp mr cp cr pv ru (HT.out.kept HK.out) (HR'.out.kept HK.out)).mono ?_
    rintro e v3 ⟨rfl, hk3⟩
    have hS3 := hS2.kept hk3
    have HS := Lib.hid (HS.out.kept0 hk3)
    have HR := Lib.hid (HR.out.kept0 hk3)
    have HK := Lib.hid (HK.out.then0 hk3)
    refine hK.out _ _ (fun _ => hS3) ?_
    clear hK K hS2 hk3
    generalize fitsP P ki a k wl wn wx wb mn mx mb gt gm mp mr pv ru = frv
    (first | (refine tkR 10 (v := ?_) rfl hS3 ⟨by rfl, ?_⟩ ?_; rotate_left; intro w h; (try dsimp only at h); first | (go_simp; done) | (go_simp; with_reducible rfl)) | refine skR 10 rfl (fun _ => hS3) (by rfl) ?_); simp only [zq1, zq2, zq3, Act.put, zq4, zq5, zq6]
    (first | (refine tkR 11 (v := ?_) rfl hS3 ⟨by rfl, ?_⟩ ?_; rotate_left; intro w h; (try dsimp only at h); first | (go_simp; done) | (go_simp; with_reducible rfl)) | refine skR 11 rfl (fun _ => hS3) (by rfl) ?_); simp only [zq1, zq2, zq3, Act.put, zq4, zq5, zq6]
    refine wpAnyR_one 12 rfl (by kernel_rfl) (fun K hK => ?_)
    go_simp
    go_at_call 12
    refine (lives_any _).mono ?_
    rintro e v4 ⟨rfl, hk4⟩
    have hS4 := hS3.kept hk4
    have HK4 := Lib.hid (HK.out.then0 hk4)
    refine hK.out _ _ (fun _ => hS4) ?_
    clear hK K hS3 hk4
    (first | (refine tkR 13 (v := ?_) rfl hS4 ⟨by rfl, ?_⟩ ?_; rotate_left; intro w h; (try dsimp only at h); first | (go_simp; done) | (go_simp; with_reducible rfl)) | refine skR 13 rfl (fun _ => hS4) (by rfl) ?_); simp only [zq1, zq2, zq3, Act.put, zq4, zq5, zq6]
    (first | (refine tkR 14 (v := ?_) rfl hS4 ⟨by rfl, ?_⟩ ?_; rotate_left; intro w h; (try dsimp only at h); first | (go_simp; done) | (go_simp; with_reducible rfl)) | refine skR 14 rfl (fun _ => hS4) (by rfl) ?_); simp only [zq1, zq2, zq3, Act.put, zq4, zq5, zq6]
    refine wpAnyR_done (by kernel_rfl) ?_ _
    go_wp2_with fail
    go_ret
    exact ⟨rfl, HK4.out⟩
end Go.Proofs.YtlnkdnmeikpckaaGreat
namespace Go.Proofs.YtlnkdnmeikpckaaGreat
open Go.ChangeShapes Go.WideShapes Go.ChangeAt Go.RowKit Go.Joins
set_option maxRecDepth 100000
set_option maxHeartbeats 1600000 in
set_option maxRecDepth 100000 in
theorem dec_EXT {H : Type} {enc : TypeId × Value → H} {W : World} {ws : List Nat} {cs : List Value} (h : Rd enc W 25 cs ws) : ∃ (ki : Int) (a : Int), cs = [.int .u8 ki, .int .i64 a] ∧ (0 ≤ ki ∧ ki ≤ 255) ∧ (-9223372036854775808 ≤ a ∧ a ≤ 9223372036854775807) := by
  obtain ⟨hl, hf⟩ := rd_struct (n := 2) Tryz.underlying25 (by kernel_rfl) h
  match cs, hl with
  | [k0, k1], _ =>
    have g0 : Rd enc W 23 [k0] ws := by
      have h : Rd enc W 23 (([k0, k1].drop 0).take (Tryz.prog.cellsOf 23)) ws := hf 0 _ rfl
      rw [show Tryz.prog.cellsOf 23 = 1 from by kernel_rfl] at h
      exact h
    obtain ⟨ki, e0, p0⟩ := rd_int Tryz.underlying23 g0
    have g1 : Rd enc W 3 [k1] ws := by
      have h : Rd enc W 3 (([k0, k1].drop 1).take (Tryz.prog.cellsOf 3)) ws := hf 1 _ rfl
      rw [show Tryz.prog.cellsOf 3 = 1 from by kernel_rfl] at h
      exact h
    obtain ⟨a, e1, p1⟩ := rd_int Tryz.underlying3 g1
    simp only [List.cons.injEq, and_true] at e0 e1
    refine ⟨ki, a, ?_, bounds_u8 p0, bounds_i64 p1⟩
    simp [e0, e1]
set_option maxHeartbeats 1600000 in
set_option maxRecDepth 100000 in
theorem dec_IMP {H : Type} {enc : TypeId × Value → H} {W : World} {ws : List Nat} {cs : List Value} (h : Rd enc W 35 cs ws) : ∃ (s : ByteArray) (u : ByteArray) (k : Int) (fi : Int) (t_el : Int) (t_l_mn : Int) (t_l_mx : Int) (t_l_bd : Bool) (m_mn : Int) (m_mx : Int) (m_bd : Bool) (g_v : Int) (g_m : Bool), cs = [.string s, .string u, .int .u8 k, .int .u32 fi, .int .u8 t_el, .int .u32 t_l_mn, .int .u32 t_l_mx, .bool t_l_bd, .int .u32 m_mn, .int .u32 m_mx, .bool m_bd, .int .u8 g_v, .bool g_m] ∧ s.size ≤ maxLen ∧ u.size ≤ maxLen ∧ (0 ≤ k ∧ k ≤ 255) ∧ (0 ≤ fi ∧ fi ≤ 4294967295) ∧ (0 ≤ t_el ∧ t_el ≤ 255) ∧ (0 ≤ t_l_mn ∧ t_l_mn ≤ 4294967295) ∧ (0 ≤ t_l_mx ∧ t_l_mx ≤ 4294967295) ∧ (0 ≤ m_mn ∧ m_mn ≤ 4294967295) ∧ (0 ≤ m_mx ∧ m_mx ≤ 4294967295) ∧ (0 ≤ g_v ∧ g_v ≤ 255) := by
  obtain ⟨hl, hf⟩ := rd_struct (n := 13) Tryz.underlying35 (by kernel_rfl) h
  match cs, hl with
  | [k0, k1, k2, k3, k4, k5, k6, k7, k8, k9, k10, k11, k12], _ =>
    have g0 : Rd enc W 9 [k0] ws := by
      have h : Rd enc W 9 (([k0, k1, k2, k3, k4, k5, k6, k7, k8, k9, k10, k11, k12].drop 0).take (Tryz.prog.cellsOf 9)) ws := hf 0 _ rfl
      rw [show Tryz.prog.cellsOf 9 = 1 from by kernel_rfl] at h
      exact h
    obtain ⟨s, e0, p0⟩ := rd_string Tryz.underlying9 g0
    have g1 : Rd enc W 9 [k1] ws := by
      have h : Rd enc W 9 (([k0, k1, k2, k3, k4, k5, k6, k7, k8, k9, k10, k11, k12].drop 1).take (Tryz.prog.cellsOf 9)) ws := hf 1 _ rfl
      rw [show Tryz.prog.cellsOf 9 = 1 from by kernel_rfl] at h
      exact h
    obtain ⟨u, e1, p1⟩ := rd_string Tryz.underlying9 g1
    have g2 : Rd enc W 23 [k2] ws := by
      have h : Rd enc W 23 (([k0, k1, k2, k3, k4, k5, k6, k7, k8, k9, k10, k11, k12].drop 2).take (Tryz.prog.cellsOf 23)) ws := hf 2 _ rfl
      rw [show Tryz.prog.cellsOf 23 = 1 from by kernel_rfl] at h
      exact h
    obtain ⟨k, e2, p2⟩ := rd_int Tryz.underlying23 g2
    have g3 : Rd enc W 26 [k3] ws := by
      have h : Rd enc W 26 (([k0, k1, k2, k3, k4, k5, k6, k7, k8, k9, k10, k11, k12].drop 3).take (Tryz.prog.cellsOf 26)) ws := hf 3 _ rfl
      rw [show Tryz.prog.cellsOf 26 = 1 from by kernel_rfl] at h
      exact h
    obtain ⟨fi, e3, p3⟩ := rd_int Tryz.underlying26 g3
    have g4 : Rd enc W 31 [k4, k5, k6, k7] ws := by
      have h : Rd enc W 31 (([k0, k1, k2, k3, k4, k5, k6, k7, k8, k9, k10, k11, k12].drop 4).take (Tryz.prog.cellsOf 31)) ws := hf 4 _ rfl
      rw [show Tryz.prog.cellsOf 31 = 4 from by kernel_rfl] at h
      exact h
    obtain ⟨t_el, t_l_mn, t_l_mx, t_l_bd, e4, p4_0, p4_1, p4_2⟩ := dec_TT g4
    have g5 : Rd enc W 29 [k8, k9, k10] ws := by
      have h : Rd enc W 29 (([k0, k1, k2, k3, k4, k5, k6, k7, k8, k9, k10, k11, k12].drop 8).take (Tryz.prog.cellsOf 29)) ws := hf 5 _ rfl
      rw [show Tryz.prog.cellsOf 29 = 3 from by kernel_rfl] at h
      exact h
    obtain ⟨m_mn, m_mx, m_bd, e5, p5_0, p5_1⟩ := dec_LIM g5
    have g6 : Rd enc W 33 [k11, k12] ws := by
      have h : Rd enc W 33 (([k0, k1, k2, k3, k4, k5, k6, k7, k8, k9, k10, k11, k12].drop 11).take (Tryz.prog.cellsOf 33)) ws := hf 6 _ rfl
      rw [show Tryz.prog.cellsOf 33 = 2 from by kernel_rfl] at h
      exact h
    obtain ⟨g_v, g_m, e6, p6_0⟩ := dec_GT g6
    simp only [List.cons.injEq, and_true] at e0 e1 e2 e3 e4 e5 e6
    refine ⟨s, u, k, fi, t_el, t_l_mn, t_l_mx, t_l_bd, m_mn, m_mx, m_bd, g_v, g_m, ?_, p0, p1, bounds_u8 p2, bounds_u32 p3, p4_0, p4_1, p4_2, p5_0, p5_1, p6_0⟩
    simp [e0, e1, e2, e3, e4, e5, e6]
end Go.Proofs.YtlnkdnmeikpckaaGreat
namespace Go.Proofs.YtlnkdnmeikpckaaGreat
open Go.ChangeShapes Go.WideShapes Go.ChangeAt Go.RowKit Go.Joins
set_option maxRecDepth 100000
set_option maxRecDepth 100000 in
set_option maxHeartbeats 1600000 in
theorem storeFits_lifted (os : Os) (started : os.Started) (H : Type) (enc : TypeId × Value → H) :
    ReturnsInHanded {} Tryz.checked os 3 .any (Rows.storeFitsSpec.pre6 enc Tryz.prog Tryz.f3 Rows.storeFitsRow.domain false) (Rows.storeFitsSpec.post enc Tryz.prog Tryz.f3 false true false false) := by
  refine returnsInHanded_of_change_sized (C := Tryz.checked) Tryz.own started (by kernel_rfl) Tryz.func3
    (ChangeSpec.witness6 (enc := enc) (C := Tryz.checked) false ⟨#[], #[.slice none 0 0, .agg #[.int .u8 0, .int .i64 0], .agg #[.string ⟨#[]⟩, .string ⟨#[]⟩, .int .u8 0, .int .u32 0, .int .u8 0, .int .u32 0, .int .u32 0, .bool false, .int .u32 0, .int .u32 0, .bool false, .int .u8 0, .bool false], .agg #[.slice none 0 0, .slice none 0 0]], []⟩ 8 (by kernel_rfl) (by kernel_rfl) (by kernel_rfl) (by kernel_rfl)) ?_
  intro W base args ds gs before hval0 hW hcnd hsz0 _
  have hsz : (DataW.weightsEach Tryz.prog (Tryz.f3.params.toList ++ Rows.storeFitsSpec.plain.varTypes Tryz.prog) (ds ++ gs)).all (· ≤ reachBytes) = true := hsz0
  clear hsz0
  have hval : ∀ (j : Nat) t v, Tryz.f3.params[j]? = some t → args[j]? = some v → Value.okWide Tryz.prog W .any base t v := hval0
  have hW' := hW
  obtain ⟨p, q, hA0, hV, rfl, hfz, hnd⟩ := hW
  have hA : DataW.TrodAll enc Tryz.prog W 0 (fun _ => true) true Tryz.f3.params.toList args.toList ds p := hA0
  rw [Tryz.params3] at hA hval hsz
  have hrd := fun j t v => rd_params (ts2 := Rows.storeFitsSpec.plain.varTypes Tryz.prog) (gs := gs) hA j t v
  have hws : ∀ q ∈ DataW.weightsEach Tryz.prog (_ ++ Rows.storeFitsSpec.plain.varTypes Tryz.prog) (ds ++ gs), q ≤ reachBytes := fun q hq => of_decide_eq_true (List.all_eq_true.1 hsz q hq)
  obtain ⟨v0, vs0, d0, ds0, p0, q0, hargs0, rfl, rfl, h0, r0⟩ := trodAll_cons hA
  obtain ⟨v1, vs1, d1, ds1, p1, q1, hargs1, rfl, rfl, h1, r1⟩ := trodAll_cons r0
  obtain ⟨v2, vs2, d2, ds2, p2, q2, hargs2, rfl, rfl, h2, r2⟩ := trodAll_cons r1
  obtain ⟨v3, vs3, d3, ds3, p3, q3, hargs3, rfl, rfl, h3, r3⟩ := trodAll_cons r2
  obtain ⟨hargsN, rfl, rfl⟩ := trodAll_nil r3
  obtain rfl : args = #[v0, v1, v2, v3] := by
    apply Array.toList_inj.1
    rw [hargs0, hargs1, hargs2, hargs3, hargsN]
  obtain ⟨rfl, rfl⟩ := trodVars_none hV
  have g0 := hrd 0 22 v0 rfl rfl
  obtain ⟨l_A, l_n, l_c, hv0⟩ := okWide_slice Tryz.underlying22 (hval 0 22 v0 rfl rfl)
  subst hv0
  have g1 := hrd 1 25 v1 rfl rfl
  obtain ⟨cs1, hcs1, _⟩ := okWide_struct Tryz.underlying25 (hval 1 25 v1 rfl rfl)
  obtain ⟨x_ki, x_a, e1, b1_0, b1_1⟩ := dec_EXT g1
  obtain rfl := rd_agg Tryz.underlying25 hcs1 e1
  have g2 := hrd 2 35 v2 rfl rfl
  obtain ⟨cs2, hcs2, _⟩ := okWide_struct Tryz.underlying35 (hval 2 35 v2 rfl rfl)
  obtain ⟨y_s, y_u, y_k, y_fi, y_t_el, y_t_l_mn, y_t_l_mx, y_t_l_bd, y_m_mn, y_m_mx, y_m_bd, y_g_v, y_g_m, e2, b2_0, b2_1, b2_2, b2_3, b2_4, b2_5, b2_6, b2_8, b2_9, b2_11⟩ := dec_IMP g2
  obtain rfl := rd_agg Tryz.underlying35 hcs2 e2
  have g3 := hrd 3 38 v3 rfl rfl
  obtain ⟨cs3, hcs3, _⟩ := okWide_struct Tryz.underlying38 (hval 3 38 v3 rfl rfl)
  obtain ⟨f_p_A, f_p_n, f_p_c, f_r_A, f_r_n, f_r_c, e3, b3_0, b3_1⟩ := dec_FT g3
  obtain rfl := rd_agg Tryz.underlying38 hcs3 e3
  obtain ⟨D, X, hacts, hlen⟩ := actl_of_rd hws g0
  obtain ⟨pv, hp⟩ := tsl_rd' b3_0 hws
  obtain ⟨rv, hr⟩ := tsl_rd' b3_1 hws
  refine (fits_law l_A l_n l_c D X x_ki x_a b1_0.1 y_s y_u y_k y_fi y_t_el y_t_l_mn y_t_l_mx y_t_l_bd y_m_mn y_m_mx y_m_bd y_g_v y_g_m f_p_A f_r_A f_p_n f_r_n f_p_c f_r_c pv rv W hp hr hacts hlen).mono fun e W' ⟨he, hk⟩ => ?_
  subst he
  refine ⟨_, rfl, post_law Tryz.laidOut ?_ hW' rfl Tryz.underlying4 (by kernel_rfl) rfl hk.below0⟩
  rw [Tryz.params3]
  intro t ht
  simp at ht
  rcases ht with rfl | rfl | rfl | rfl <;> exact ⟨by kernel_rfl, of_decide_eq_true (by kernel_rfl)⟩
theorem storeFits_holds : Rows.StoreFitsSaid :=
  OpenClaim.holds_of_wide 3 Tryz.f3 rfl rfl rfl rfl rfl rfl rfl ⟨rfl, rfl, rfl, rfl, rfl⟩ rfl rfl rfl rfl rfl (by kernel_rfl) Tryz.func3 (by kernel_rfl)
    (of_decide_eq_true (by kernel_rfl)) (by unfold Func.isWrapper; rw [if_neg (of_decide_eq_false (by kernel_rfl))]; exact ⟨rfl, rfl⟩)
    (fun os started H enc _ => storeFits_lifted os started H enc)
end Go.Proofs.YtlnkdnmeikpckaaGreat
