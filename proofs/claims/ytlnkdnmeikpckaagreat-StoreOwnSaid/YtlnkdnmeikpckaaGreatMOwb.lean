/- Whatever the input, StoreOwn returns true and its arguments read as they did. No condition. -/
import Derived.Test.YtlnkdnmeikpckaaGreatMOwa
import Derived.Test.YtlnkdnmeikpckaaGreatMSta
import Derived.Test.YtlnkdnmeikpckaaGreatMStb
import Derived.Test.YtlnkdnmeikpckaaGreatMStc
import Derived.Test.YtlnkdnmeikpckaaGreatMStd
import Derived.Test.YtlnkdnmeikpckaaGreatMSte
import Derived.Test.YtlnkdnmeikpckaaGreatMStf
import Derived.Test.YtlnkdnmeikpckaaGreatMStg
import Derived.Test.YtlnkdnmeikpckaaGreatMSth
import Derived.Test.YtlnkdnmeikpckaaGreatMStj
import Derived.Test.YtlnkdnmeikpckaaGreatMStl
import Derived.Test.YtlnkdnmeikpckaaGreatMStm
import Derived.Test.YtlnkdnmeikpckaaGreatRows
import Derived.ProofKit
import Derived.SizedLaws
import Derived.Lib.SmallJoins
import Derived.Deep.DeepCutAuto
import Derived.Outline
namespace Go.Proofs.YtlnkdnmeikpckaaGreat
open Go.RowKit
set_option maxRecDepth 100000
def noneE (n : Nat) (a : Int) : Int := if inA a n = true then 0 else 11
theorem noneE_in {n : Nat} {a : Int} (h : inA a n = true) : noneE n a = 0 := if_pos h
theorem noneE_out {n : Nat} {a : Int} (h : inA a n = false) : noneE n a = 11 := if_neg (by rw [h]; decide)
theorem inA_nat {n : Nat} {a : Int} (h : inA a n = true) : ∃ k : Nat, a = (k : Int) ∧ k < n := by
  have h' := of_decide_eq_true h
  exact ⟨a.toNat, by omega, by omega⟩
theorem inA_out {n : Nat} {a : Int} (h : inA a n = false) : a < 0 ∨ (n : Int) ≤ a := by
  have h' := of_decide_eq_false h
  omega
theorem FnL.at {lab : Nat → Nat} {w : World} {F : Nat → Value} {i : Nat} {p : PFn} (h : FnL lab w F i p) : ∃ A c C d, FnAt w F i A p.np c p.v C p.nr d p.u p.h p.s p.i p.b := by
  obtain ⟨A, c, C, d, f0, f1, f2, f3, f4, f5, l1, l2⟩ := h.ex
  exact ⟨A, c, C, d, f0, f1, f2, f3, f4, f5, l1.tsl, l2.tsl⟩
section
variable {B sb rb : Nat} {lab : Nat → Nat} {w : World} {P : PSt} {v u : SV}
theorem g_func (h : SAt B lab w sb P v) (hP : P.Le 60) (a : Int) :
    Calls Tryz.prog 14 #[.pointer (some ⟨sb, 0, none⟩), .int .i64 a] w fun e w' => (∃ x0 x1 x2 y0 y1 y2 h s i b, e = .returned (.tuple #[.agg #[.slice x0 x1 x2, .slice y0 y1 y2, .bool h, .string s, .int .i64 i, .int .i64 b], .int .i64 (noneE P.nf a)])) ∧ Kept S0 w w' := by
  have hn := hP.f
  cases ha : inA a P.nf with
  | false =>
    rw [noneE_out ha]
    refine (getfunc_out a h.ls.obj h.ls.f (by omega) (inA_out ha)).mono ?_
    rintro e w' ⟨rfl, hk⟩
    exact ⟨⟨_, _, _, _, _, _, _, _, _, _, rfl⟩, hk⟩
  | true =>
    rw [noneE_in ha]
    obtain ⟨k, rfl, hk⟩ := inA_nat ha
    obtain ⟨A, c, C, d, hF⟩ := (h.st.fn k hk).at
    refine (getfunc_in k A C (P.F k).np c (P.F k).nr d (P.F k).v (P.F k).u (P.F k).h (P.F k).s (P.F k).i (P.F k).b h.ls.obj h.ls.f (by omega) hk hF).mono ?_
    rintro e w' ⟨y, z, rfl, h1, h2, hk'⟩
    obtain ⟨A1, c1, rfl, _⟩ := h1.out
    obtain ⟨A2, c2, rfl, _⟩ := h2.out
    exact ⟨⟨_, _, _, _, _, _, _, _, _, _, rfl⟩, hk'⟩
theorem g_tab (h : SAt B lab w sb P v) (hP : P.Le 60) (a : Int) :
    Calls Tryz.prog 16 #[.pointer (some ⟨sb, 0, none⟩), .int .i64 a] w fun e w' => (∃ p : Option Addr, e = .returned (.tuple #[.pointer p, .int .i64 (noneE P.nt a)])) ∧ Kept S0 w w' := by
  have hn := hP.t
  cases ha : inA a P.nt with
  | false =>
    rw [noneE_out ha]
    refine (gettable_out a h.ls.obj h.ls.t (by omega) (inA_out ha)).mono ?_
    rintro e w' ⟨rfl, rfl⟩
    exact ⟨⟨_, rfl⟩, Kept.refl _ _⟩
  | true =>
    rw [noneE_in ha]
    obtain ⟨k, rfl, hk⟩ := inA_nat ha
    obtain ⟨tb, mn, lt, hF, _⟩ := (h.tb k hk).ex
    refine (gettable_in k _ h.ls.obj h.ls.t (by omega) hk hF).mono ?_
    rintro e w' ⟨rfl, rfl⟩
    exact ⟨⟨_, rfl⟩, Kept.refl _ _⟩
theorem g_mem (h : SAt B lab w sb P v) (hP : P.Le 60) (a : Int) :
    Calls Tryz.prog 18 #[.pointer (some ⟨sb, 0, none⟩), .int .i64 a] w fun e w' => (∃ p : Option Addr, e = .returned (.tuple #[.pointer p, .int .i64 (noneE P.nm a)])) ∧ Kept S0 w w' := by
  have hn := hP.m
  cases ha : inA a P.nm with
  | false =>
    rw [noneE_out ha]
    refine (getmem_out a h.ls.obj h.ls.m (by omega) (inA_out ha)).mono ?_
    rintro e w' ⟨rfl, rfl⟩
    exact ⟨⟨_, rfl⟩, Kept.refl _ _⟩
  | true =>
    rw [noneE_in ha]
    obtain ⟨k, rfl, hk⟩ := inA_nat ha
    obtain ⟨pb, bb, mn, f, hF, _⟩ := (h.mm k hk).ex
    refine (getmem_in k _ h.ls.obj h.ls.m (by omega) hk hF).mono ?_
    rintro e w' ⟨rfl, rfl⟩
    exact ⟨⟨_, rfl⟩, Kept.refl _ _⟩
theorem g_glob (h : SAt B lab w sb P v) (hP : P.Le 60) (a : Int) :
    Calls Tryz.prog 20 #[.pointer (some ⟨sb, 0, none⟩), .int .i64 a] w fun e w' => (∃ gt gm t lo hi, e = .returned (.tuple #[.agg #[.int .u8 gt, .bool gm], .agg #[.int .u8 t, .int .u64 lo, .int .u64 hi], .int .i64 (noneE P.ng a)])) ∧ Kept S0 w w' := by
  have hn := hP.g
  cases ha : inA a P.ng with
  | false =>
    rw [noneE_out ha]
    refine (getglob_out a h.ls.obj h.ls.g (by omega) (inA_out ha)).mono ?_
    rintro e w' ⟨rfl, hk⟩
    exact ⟨⟨_, _, _, _, _, rfl⟩, hk⟩
  | true =>
    rw [noneE_in ha]
    obtain ⟨k, rfl, hk⟩ := inA_nat ha
    have hg := h.st.gl k hk
    refine (getglob_in k (P.G k).t (P.G k).m (P.G k).x.t (P.G k).x.lo (P.G k).x.hi h.ls.obj h.ls.g (by omega) hk hg.f0 hg.f1 hg.f2 hg.f3 hg.f4).mono ?_
    rintro e w' ⟨rfl, hk'⟩
    exact ⟨⟨_, _, _, _, _, rfl⟩, hk'⟩
/-- Whether an extern fits, plain. -/
def fitsP (P : PSt) (ki a k wl wn wx : Int) (wb : Bool) (mn mx : Int) (mb : Bool) (gt : Int) (gm : Bool) (mp mr : Nat) (pv ru : Nat → UInt8) : Int :=
  if ki = 0 then (if inA a P.nf = true then fitR ((0 : Int) == k) (eqT (P.F a.toNat).np mp (P.F a.toNat).v pv && eqT (P.F a.toNat).nr mr (P.F a.toNat).u ru) else 11)
  else if ki = 1 then (if inA a P.nt = true then fitR ((1 : Int) == k) (((P.T a.toNat).el == wl) && fitLB (P.T a.toNat).n (P.T a.toNat).mx (P.T a.toNat).bd wn wx wb) else 11)
  else if ki = 2 then (if inA a P.nm = true then fitR ((2 : Int) == k) (fitLB (P.M a.toNat).pg (P.M a.toNat).mx (P.M a.toNat).bd mn mx mb) else 11)
  else if ki = 3 then (if inA a P.ng = true then fitR ((3 : Int) == k) (((P.G a.toNat).t == gt) && ((P.G a.toNat).m == gm)) else 11)
  else 11
theorem fitF_R (k : Int) (b : Bool) : fitF k b = fitR ((0 : Int) == k) b := by
  unfold fitF fitR
  by_cases h : k = 0
  · subst h; simp
  · rw [if_neg (fun x => h x.1), if_neg (by simp; intro e; exact absurd e.symm h)]
set_option maxHeartbeats 1600000 in
theorem fits_at (h : SAt B lab w sb P v) (hP : P.Le 60) (ki a : Int) (h0 : 0 ≤ ki) (s1 s2 : ByteArray) (k fi wl wn wx : Int) (wb : Bool) (mn mx : Int) (mb : Bool) (gt : Int) (gm : Bool) (T R : Option Addr) (mp mr cp cr : Nat) (pv ru : Nat → UInt8) (hT : TSl w T mp cp pv) (hR : TSl w R mr cr ru) :
    Calls Tryz.prog 10 #[.pointer (some ⟨sb, 0, none⟩), .agg #[.int .u8 ki, .int .i64 a], .agg #[.string s1, .string s2, .int .u8 k, .int .u32 fi, .int .u8 wl, .int .u32 wn, .int .u32 wx, .bool wb, .int .u32 mn, .int .u32 mx, .bool mb, .int .u8 gt, .bool gm], .agg #[.slice T mp cp, .slice R mr cr]] w fun e w' => e = .returned (.int .i64 (fitsP P ki a k wl wn wx wb mn mx mb gt gm mp mr pv ru)) ∧ Kept S0 w w' := by
  have hnf := hP.f
  have hnt := hP.t
  have hnm := hP.m
  have hng := hP.g
  have hb := h.ls.obj
  by_cases k0 : ki = 0
  · subst k0
    cases ha : inA a P.nf with
    | false =>
      rw [show fitsP P 0 a k wl wn wx wb mn mx mb gt gm mp mr pv ru = 11 from by unfold fitsP; rw [if_pos rfl]; exact if_neg (by rw [ha]; decide)]
      exact fits_func_out a h.ls.f (by omega) (inA_out ha) s1 s2 k fi wl wn wx wb mn mx mb gt gm T R mp mr cp cr pv ru hT hR hb
    | true =>
      obtain ⟨j, rfl, hj⟩ := inA_nat ha
      rw [show fitsP P 0 (j : Int) k wl wn wx wb mn mx mb gt gm mp mr pv ru = fitR ((0 : Int) == k) (eqT (P.F j).np mp (P.F j).v pv && eqT (P.F j).nr mr (P.F j).u ru) from by unfold fitsP; rw [if_pos rfl]; exact if_pos ha]
      obtain ⟨A, c, C, d, hF⟩ := (h.st.fn j hj).at
      rw [← fitF_R]
      exact fits_func_in j k A C T R (P.F j).np c (P.F j).nr d mp cp mr cr (P.F j).v (P.F j).u pv ru (P.F j).h (P.F j).s (P.F j).i (P.F j).b _ hb h.ls.f (by omega) hj hF rfl hT hR
  by_cases k1 : ki = 1
  · subst k1
    cases ha : inA a P.nt with
    | false =>
      rw [show fitsP P 1 a k wl wn wx wb mn mx mb gt gm mp mr pv ru = 11 from by unfold fitsP; rw [if_neg (by decide), if_pos rfl]; exact if_neg (by rw [ha]; decide)]
      exact fits_table_out a h.ls.t (by omega) (inA_out ha) s1 s2 k fi wl wn wx wb mn mx mb gt gm T R mp mr cp cr hb
    | true =>
      obtain ⟨j, rfl, hj⟩ := inA_nat ha
      rw [show fitsP P 1 (j : Int) k wl wn wx wb mn mx mb gt gm mp mr pv ru = fitR ((1 : Int) == k) (((P.T j).el == wl) && fitLB (P.T j).n (P.T j).mx (P.T j).bd wn wx wb) from by unfold fitsP; rw [if_neg (by decide), if_pos rfl]; exact if_pos ha]
      have hx := (h.tb j hj).hn
      obtain ⟨tb, tm, lt, hF, ht, _⟩ := (h.tb j hj).ex
      exact fits_table_in j tb B (P.T j).n (P.T j).el tm (P.T j).mx (P.T j).bd lt (P.T j).f h.ls.t (by omega) hj hF ht hx s1 s2 k fi wl wn wx wb mn mx mb gt gm T R mp mr cp cr hb
  by_cases k2 : ki = 2
  · subst k2
    cases ha : inA a P.nm with
    | false =>
      rw [show fitsP P 2 a k wl wn wx wb mn mx mb gt gm mp mr pv ru = 11 from by unfold fitsP; rw [if_neg (by decide), if_neg (by decide), if_pos rfl]; exact if_neg (by rw [ha]; decide)]
      exact fits_mem_out a h.ls.m (by omega) (inA_out ha) s1 s2 k fi wl wn wx wb mn mx mb gt gm T R mp mr cp cr hb
    | true =>
      obtain ⟨j, rfl, hj⟩ := inA_nat ha
      rw [show fitsP P 2 (j : Int) k wl wn wx wb mn mx mb gt gm mp mr pv ru = fitR ((2 : Int) == k) (fitLB (P.M j).pg (P.M j).mx (P.M j).bd mn mx mb) from by unfold fitsP; rw [if_neg (by decide), if_neg (by decide), if_pos rfl]; exact if_pos ha]
      have hx := (h.mm j hj).hp
      obtain ⟨tb, bb, tm, f, hF, ht, _⟩ := (h.mm j hj).ex
      have hq : ((((P.M j).pg * 65536) / 65536 : Nat) : Int) = (P.M j).pg := by omega
      have hh := fits_mem_in j tb bb ((P.M j).pg * 65536) tm (P.M j).mx (P.M j).bd f h.ls.m (by omega) hj hF ht (by omega) s1 s2 k fi wl wn wx wb mn mx mb gt gm T R mp mr cp cr hb
      rw [hq] at hh
      exact hh
  by_cases k3 : ki = 3
  · subst k3
    cases ha : inA a P.ng with
    | false =>
      rw [show fitsP P 3 a k wl wn wx wb mn mx mb gt gm mp mr pv ru = 11 from by unfold fitsP; rw [if_neg (by decide), if_neg (by decide), if_neg (by decide), if_pos rfl]; exact if_neg (by rw [ha]; decide)]
      exact fits_glob_out a h.ls.g (by omega) (inA_out ha) s1 s2 k fi wl wn wx wb mn mx mb gt gm T R mp mr cp cr hb
    | true =>
      obtain ⟨j, rfl, hj⟩ := inA_nat ha
      rw [show fitsP P 3 (j : Int) k wl wn wx wb mn mx mb gt gm mp mr pv ru = fitR ((3 : Int) == k) (((P.G j).t == gt) && ((P.G j).m == gm)) from by unfold fitsP; rw [if_neg (by decide), if_neg (by decide), if_neg (by decide), if_pos rfl]; exact if_pos ha]
      have hg := h.st.gl j hj
      exact fits_glob_in j (P.G j).t (P.G j).m (P.G j).x.t (P.G j).x.lo (P.G j).x.hi h.ls.g (by omega) hj hg.f0 hg.f1 hg.f2 hg.f3 hg.f4 s1 s2 k fi wl wn wx wb mn mx mb gt gm T R mp mr cp cr hb
  rw [show fitsP P ki a k wl wn wx wb mn mx mb gt gm mp mr pv ru = 11 from by unfold fitsP; rw [if_neg k0, if_neg k1, if_neg k2, if_neg k3]]
  exact fits_other ki a (by simpa using k0) (by simpa using k1) (by simpa using k2) (by simpa using k3) s1 s2 k fi wl wn wx wb mn mx mb gt gm T R mp mr cp cr hb
end
end Go.Proofs.YtlnkdnmeikpckaaGreat
namespace Go.Proofs.YtlnkdnmeikpckaaGreat
open Go.ChangeShapes Go.WideShapes Go.ChangeAt Go.RowKit Go.Joins
set_option maxRecDepth 100000
theorem Tryz.own : ownKnob Tryz.prog.godebug = none := by kernel_rfl
theorem Tryz.laidOut : laidOutB Tryz.prog = true := by kernel_rfl
end Go.Proofs.YtlnkdnmeikpckaaGreat
namespace Go.Proofs.YtlnkdnmeikpckaaGreat
open Go.ChangeShapes Go.WideShapes Go.ChangeAt Go.RowKit Go.Joins
set_option maxRecDepth 100000
section
variable {H : Type} {enc : TypeId × Value → H} {W : World} {ws : List Nat} {cs : List Value}
theorem rd_agg {t : TypeId} {fs : Array Field} {v : Value} {cs : Array Value} {l : List Value} (_ht : Tryz.prog.underlying t = some (.struct fs)) (hv : v = .agg cs) (h : v.cells.toList = l) : v = .agg l.toArray := by
  subst hv
  simp only [Value.cells] at h
  rw [← h]
end
end Go.Proofs.YtlnkdnmeikpckaaGreat
namespace Go.Proofs.YtlnkdnmeikpckaaGreat
open Go.RowKit
set_option maxRecDepth 100000
def PSt.arr (P : PSt) : Array Value := #[.int .i64 (P.nf : Int), .int .i64 (P.nt : Int), .int .i64 (P.nm : Int), .int .i64 (P.ng : Int), .int .i64 (P.ne : Int), .int .i64 (P.nd : Int), .int .i64 (P.ni : Int)]
end Go.Proofs.YtlnkdnmeikpckaaGreat
namespace Go.Proofs.YtlnkdnmeikpckaaGreat
open Go.RowKit
set_option maxRecDepth 100000
section
variable {P : Program}
theorem exec_load_row {o : Oper} {a : Act} (ty : TypeId) (x : Operand) (ho : o.op = .load ty x) (w : World) (g : Nat) (hx : a.eval x = .pointer (some ⟨g, 0, none⟩)) (t : TypeId) (cs : Array Value) (fr : Nat × Nat) (d : TypeDesc) (hg : w.heap[g]? = some (.cells cs t fr))
    (hu : P.underlying ty = some d) (hd : (match d with | .struct _ | .array _ _ => true | _ => false) = true) (hi : (P.info? ty).map (·.size) = some cs.size) : (execOp a.eval o).run P w = .ok (.value (.agg cs)) w := by
  unfold execOp
  simp only [ho, hx, Instr.loadAt, Instr.sureAddr, Sem.run_bind, Sem.run_pure, Result.andThen_ok, run_loadVar_row w g t ty cs fr d hg hu hd hi]
end
end Go.Proofs.YtlnkdnmeikpckaaGreat
namespace Go.Proofs.YtlnkdnmeikpckaaGreat
open Go.RowKit
set_option maxRecDepth 100000
section
variable {P : Program}
theorem exec_load_cells {o : Oper} {a : Act} (ty : TypeId) (x : Operand) (ho : o.op = .load ty x) (w : World) (p : Addr) (hx : a.eval x = .pointer (some p)) (cs : Array Value) (d : TypeDesc) (hc : ∀ j, j < cs.size → w.cell? (p.add j) = cs[j]?)
    (hu : P.underlying ty = some d) (hd : (match d with | .struct _ | .array _ _ => true | _ => false) = true) (hi : (P.info? ty).map (·.size) = some cs.size) : (execOp a.eval o).run P w = .ok (.value (.agg cs)) w := by
  unfold execOp
  simp only [ho, hx, Instr.loadAt, Instr.sureAddr, Sem.run_bind, Sem.run_pure, Result.andThen_ok, run_loadVar_cells w p ty cs d hc hu hd hi]
end
/-- The boxes of a round. -/
structure OB (w : World) (eb gb tx : Nat) (k ki : Int) (g ft : Array Value) : Prop where
  e : Blk w eb 25 #[.int .u8 ki, .int .i64 k]
  g : ∀ j, j < 2 → w.cell? ⟨gb, j, none⟩ = g[j]?
  t : Blk w tx 38 ft
theorem OB.kept {w w' : World} {eb gb tx : Nat} {k ki : Int} {g ft : Array Value} (h : OB w eb gb tx k ki g ft) (hk : Kept S0 w w') (hg : g.size = 2 := by rfl) : OB w' eb gb tx k ki g ft :=
  ⟨hk.blk h.e (fun x => x), fun j hj => by
    have h1 := h.g j hj
    have h2 : g[j]? = some (g[j]'(by omega)) := Array.getElem?_eq_getElem (by omega)
    rw [h2] at h1 ⊢
    exact keep0 hk h1, hk.blk h.t (fun x => x)⟩
theorem eqT_comm (n m : Nat) (v u : Nat → UInt8) : eqT n m v u = eqT m n u v := by
  unfold eqT
  by_cases h : n = m
  · subst h
    exact decide_eq_decide.2 ⟨fun x => ⟨rfl, fun i hi => (x.2 i hi).symm⟩, fun x => ⟨rfl, fun i hi => (x.2 i hi).symm⟩⟩
  · rw [decide_eq_false (fun x => h x.1), decide_eq_false (fun x => h x.1.symm)]
theorem eqT_self (n : Nat) (v : Nat → UInt8) : eqT n n v v = true := eqT_true fun _ _ => rfl
theorem fitLB_self (mn mx : Int) (bd : Bool) : fitLB mn mx bd mn mx bd = true := by unfold fitLB; cases bd <;> simp
theorem inA_of {n k : Nat} (h : k < n) : inA (k : Int) n = true := decide_eq_true ⟨by omega, by omega⟩
section
variable {P : PSt} {k : Nat}
theorem own_func (h : k < P.nf) (mp mr : Nat) (pv ru : Nat → UInt8) (wl wn wx : Int) (wb : Bool) (mn mx : Int) (mb : Bool) (gt : Int) (gm : Bool) : fitsP P 0 (k : Int) 0 wl wn wx wb mn mx mb gt gm mp mr pv ru = if (eqT (P.F k).np mp (P.F k).v pv && eqT (P.F k).nr mr (P.F k).u ru) = true then 0 else 10 := by
  unfold fitsP
  rw [if_pos rfl, if_pos (inA_of h)]
  rfl
theorem own_tab (h : k < P.nt) (mp mr : Nat) (pv ru : Nat → UInt8) (mn mx : Int) (mb : Bool) (gt : Int) (gm : Bool) : fitsP P 1 (k : Int) 1 (P.T k).el (P.T k).n (P.T k).mx (P.T k).bd mn mx mb gt gm mp mr pv ru = 0 := by
  unfold fitsP
  rw [if_neg (by decide), if_pos rfl, if_pos (inA_of h)]
  simp only [Int.toNat_natCast]
  rw [fitLB_self]
  simp [fitR]
theorem own_mem (h : k < P.nm) (mp mr : Nat) (pv ru : Nat → UInt8) (wl wn wx : Int) (wb : Bool) (gt : Int) (gm : Bool) : fitsP P 2 (k : Int) 2 wl wn wx wb (P.M k).pg (P.M k).mx (P.M k).bd gt gm mp mr pv ru = 0 := by
  unfold fitsP
  rw [if_neg (by decide), if_neg (by decide), if_pos rfl, if_pos (inA_of h)]
  simp only [Int.toNat_natCast]
  rw [fitLB_self]
  simp [fitR]
theorem own_glob (h : k < P.ng) (mp mr : Nat) (pv ru : Nat → UInt8) (wl wn wx : Int) (wb : Bool) (mn mx : Int) (mb : Bool) : fitsP P 3 (k : Int) 3 wl wn wx wb mn mx mb (P.G k).t (P.G k).m mp mr pv ru = 0 := by
  unfold fitsP
  rw [if_neg (by decide), if_neg (by decide), if_neg (by decide), if_pos rfl, if_pos (inA_of h)]
  show fitR _ (((P.G k).t == (P.G k).t) && ((P.G k).m == (P.G k).m)) = 0
  simp [fitR]
theorem other_glob (h : k < P.ng) (mp mr : Nat) (pv ru : Nat → UInt8) (wl wn wx : Int) (wb : Bool) (mn mx : Int) (mb : Bool) : fitsP P 3 (k : Int) 3 wl wn wx wb mn mx mb (P.G k).t (!(P.G k).m) mp mr pv ru = 10 := by
  unfold fitsP
  rw [if_neg (by decide), if_neg (by decide), if_neg (by decide), if_pos rfl, if_pos (inA_of h)]
  show fitR _ (((P.G k).t == (P.G k).t) && ((P.G k).m == !(P.G k).m)) = 10
  cases (P.G k).m <;> simp [fitR]
theorem kind_glob (h : k < P.ng) (mp mr : Nat) (pv ru : Nat → UInt8) (wl wn wx : Int) (wb : Bool) (mn mx : Int) (mb : Bool) (gt : Int) (gm : Bool) : fitsP P 3 (k : Int) 2 wl wn wx wb mn mx mb gt gm mp mr pv ru = 10 := by
  unfold fitsP
  rw [if_neg (by decide), if_neg (by decide), if_neg (by decide), if_pos rfl, if_pos (inA_of h)]
  rfl
end
set_option maxRecDepth 100000 in
set_option maxHeartbeats 25600000 in
theorem own_law (A : Option Addr) (n c : Nat) (D : Nat → Int) (X : Nat → ActP) (T R : Option Addr) (mp mr cp cr : Nat) (pv ru : Nat → UInt8) (w : World) (hT : TSl w T mp cp pv) (hR : TSl w R mr cr ru) (hl : ActL w A n D X) (hn : n ≤ 9223372036854775806) :
    Calls Tryz.prog 4 #[.slice A n c, .agg #[.slice T mp cp, .slice R mr cr]] w fun e w' => e = .returned (.bool true) ∧ Kept S0 w w' := by
  have hk0 : Kept S0 w (w.alloc (.cells #[.slice T mp cp, .slice R mr cr] 38)) := (Kept.refl S0 w).alloc _
  have HX := Lib.hid (Blk.new w 38 #[.slice T mp cp, .slice R mr cr])
  have HL := Lib.hid (hl.kept hk0)
  have HK := Lib.hid hk0
  have HT := Lib.hid hT
  have HR' := Lib.hid hR
  clear hl hk0 hT hR
  go_enter Tryz.func4, Tryz.ntmps4
  go_wp2_with fail
  generalize w.heap.size = tx at *
  generalize (w.alloc (.cells #[.slice T mp cp, .slice R mr cr] 38)) = w0 at *
  refine (filled_any A n c D X w0 HL.out hn).mono ?_
  rintro e w1 ⟨sb, rb, rfl, lab, v, u, P, hs, hr, hb, hP⟩
  have HS := Lib.hid hs
  have HX := Lib.hid (hb.k.blk HX.out (fun x => x))
  have HK := Lib.hid (HK.out.then0 hb.k)
  have HP := Lib.hid (hP.mono (by omega : 30 ≤ 60))
  clear hs hr hb hP HL
  go_wp2_with fail
  refine (s_sizes HS.out).mono ?_
  rintro e w2 ⟨rfl, hk⟩
  have hal : Kept S0 w1 (w2.alloc (.cells P.arr 43)) := hk.alloc _
  have HN := Lib.hid (Blk.new w2 43 P.arr)
  have HS := Lib.hid (HS.out.kept0 hal)
  have HX := Lib.hid (hal.blk HX.out (fun x => x))
  have HK := Lib.hid (HK.out.then0 hal)
  clear hk hal
  go_wp2_with fail
  unfold PSt.arr at HN HS HX HK
  generalize w2.heap.size = nb at *
  generalize (w2.alloc (.cells #[.int .i64 (P.nf : Int), .int .i64 (P.nt : Int), .int .i64 (P.nm : Int), .int .i64 (P.ng : Int), .int .i64 (P.ne : Int), .int .i64 (P.nd : Int), .int .i64 (P.ni : Int)] 43)) = wa at *
  go_loopw [9] (fun i wr => ∃ k : Nat, k ≤ P.nf ∧ i = .int .i64 (k : Int) ∧ Kept S0 wa wr) (fun i _ => P.nf - (intOf i).toNat)
  case atStart => exact ⟨0, by omega, rfl, Kept.refl _ _⟩
  case round =>
    obtain ⟨k, hk, rfl, hkw⟩ := hrel
    have HKW := Lib.hid hkw
    clear hkw
    have qn : wr.cell? ⟨nb, 0, none⟩ = some (.int .i64 (P.nf : Int)) := keep0 HKW.out (HN.out.cell 0)
    have hcnt := HP.out.f
    by_cases hlt : k < P.nf
    · have HSR := Lib.hid (HS.out.kept0 HKW.out)
      obtain ⟨fA, fc, fC, fd, hF⟩ := (HSR.out.st.fn k hlt).at
      have HF := Lib.hid hF
      clear hF
      go_wp2_with fail
      refine (getfunc_in k fA fC (P.F k).np fc (P.F k).nr fd (P.F k).v (P.F k).u (P.F k).h (P.F k).s (P.F k).i (P.F k).b HSR.out.ls.obj HSR.out.ls.f (by have := HP.out.f; omega) hlt HF.out).mono ?_
      rintro e v1 ⟨y, z, rfl, ho1, ho2, hk1⟩
      obtain ⟨A1, c1, rfl, _⟩ := ho1.out
      obtain ⟨A2, c2, rfl, _⟩ := ho2.out
      have hal : Kept S0 v1 ((v1.alloc (.cells #[.slice A1 (P.F k).np c1, .slice A2 (P.F k).nr c2, .bool (P.F k).h, .string (P.F k).s, .int .i64 (P.F k).i, .int .i64 (P.F k).b] 51)).alloc (.cells #[.int .u8 0, .int .i64 (k : Int)] 25)) := ((Kept.refl S0 v1).alloc _).alloc _
      have hob := Blk.new1 v1 (.cells #[.slice A1 (P.F k).np c1, .slice A2 (P.F k).nr c2, .bool (P.F k).h, .string (P.F k).s, .int .i64 (P.F k).i, .int .i64 (P.F k).b] 51) 25 #[.int .u8 0, .int .i64 (k : Int)]
      have hog := (Blk.new v1 51 #[.slice A1 (P.F k).np c1, .slice A2 (P.F k).nr c2, .bool (P.F k).h, .string (P.F k).s, .int .i64 (P.F k).i, .int .i64 (P.F k).b]).alloc (.cells #[.int .u8 0, .int .i64 (k : Int)] 25)
      have HG1 := Lib.hid ((tsl_own ho1 (by have := HF.out.p.sz; omega)).kept hal)
      have HG2 := Lib.hid ((tsl_own ho2 (by have := HF.out.r.sz; omega)).kept hal)
      have HS3 := Lib.hid (HSR.out.kept0 (hk1.trans hal))
      have HK3 := Lib.hid (HK.out.then0 (HKW.out.then0 (hk1.trans hal)))
      have HKF := Lib.hid (HKW.out.then0 (hk1.trans hal))
      have HX3 := Lib.hid (HKF.out.blk HX.out (fun x => x))
      have HOB := Lib.hid hob
      have HOG := Lib.hid hog
      clear ho1 ho2 hk1 hal hob hog qn
      go_wp2_with fail
      generalize v1.heap.size + 1 = eb at *
      generalize v1.heap.size = gb at *
      generalize ((v1.alloc (.cells #[.slice A1 (P.F k).np c1, .slice A2 (P.F k).nr c2, .bool (P.F k).h, .string (P.F k).s, .int .i64 (P.F k).i, .int .i64 (P.F k).b] 51)).alloc (.cells #[.int .u8 0, .int .i64 (k : Int)] 25)) = v2 at *
      refine wp_region_R (fun w' => OB w' eb gb tx (k : Int) 0 #[.slice A1 (P.F k).np c1, .slice A2 (P.F k).nr c2] #[.slice T mp cp, .slice R mr cr]) [] (by kernel_rfl) ?_
      have hkd : Kept S0 v2 (World.drew v2) := (Kept.refl S0 v2).drew
      have HS3 := Lib.hid (HS3.out.kept0 hkd)
      have HK3 := Lib.hid (HK3.out.then0 hkd)
      have HKF := Lib.hid (HKF.out.then0 hkd)
      have HG1 := Lib.hid (HG1.out.kept hkd)
      have HG2 := Lib.hid (HG2.out.kept hkd)
      have hS : OB (World.drew v2) eb gb tx (k : Int) 0 #[.slice A1 (P.F k).np c1, .slice A2 (P.F k).nr c2] #[.slice T mp cp, .slice R mr cr] := ⟨hkd.blk HOB.out (fun x => x), fun j hj => by
        match j, hj with
        | 0, _ => exact keep0 hkd (HOG.out.cell 0)
        | 1, _ => exact keep0 hkd (HOG.out.cell 1), hkd.blk HX3.out (fun x => x)⟩
      clear hkd
      generalize World.drew v2 = v3 at *
      (first | (refine tkR 0 (v := ?_) rfl hS ⟨by rfl, ?_⟩ ?_; rotate_left; intro w h; (try dsimp only at h); first | (go_simp; done) | (go_simp; with_reducible rfl)) | refine skR 0 rfl (fun _ => hS) (by rfl) ?_); simp only [zq1, zq2, Act.put, zq4, zq5, zq6]
      refine tkR 1 (v := .agg #[.int .u8 0, .int .i64 (k : Int)]) rfl hS ⟨by rfl, fun w hSw => exec_load_row 25 _ rfl w _ rfl 25 #[.int .u8 0, .int .i64 (k : Int)] (0, 0) _ hSw.e Tryz.underlying25 rfl (by kernel_rfl)⟩ ?_; simp only [zq1, zq2, zq3, Act.put, zq4, zq5, zq6]
      (first | (refine tkR 2 (v := ?_) rfl hS ⟨by rfl, ?_⟩ ?_; rotate_left; intro w h; (try dsimp only at h); first | (go_simp; done) | (go_simp; with_reducible rfl)) | refine skR 2 rfl (fun _ => hS) (by rfl) ?_); simp only [zq1, zq2, zq3, Act.put, zq4, zq5, zq6]
      (first | (refine tkR 3 (v := ?_) rfl hS ⟨by rfl, ?_⟩ ?_; rotate_left; intro w h; (try dsimp only at h); first | (go_simp; done) | (go_simp; with_reducible rfl)) | refine skR 3 rfl (fun _ => hS) (by rfl) ?_); simp only [zq1, zq2, zq3, Act.put, zq4, zq5, zq6]
      refine tkR 4 (v := .agg #[.slice A1 (P.F k).np c1, .slice A2 (P.F k).nr c2]) rfl hS ⟨by rfl, fun w hSw => exec_load_cells 38 _ rfl w ⟨gb, 0, none⟩ rfl #[.slice A1 (P.F k).np c1, .slice A2 (P.F k).nr c2] _ (fun j hj => by rw [addr_add, Nat.zero_add]; exact hSw.g j hj) Tryz.underlying38 rfl (by kernel_rfl)⟩ ?_; simp only [zq1, zq2, zq3, Act.put, zq4, zq5, zq6]
      have HC1 := Lib.hid (show Calls Tryz.prog 10 #[.pointer (some ⟨sb, 0, none⟩), .agg #[.int .u8 0, .int .i64 (k : Int)], .agg #[.string ⟨#[]⟩, .string ⟨#[]⟩, .int .u8 0, .int .u32 0, .int .u8 0, .int .u32 0, .int .u32 0, .bool false, .int .u32 0, .int .u32 0, .bool false, .int .u8 0, .bool false], .agg #[.slice A1 (P.F k).np c1, .slice A2 (P.F k).nr c2]] v3 (fun e w' => e = .returned (.int .i64 0) ∧ Kept S0 v3 w') from by have h := fits_at HS3.out HP.out 0 (k : Int) (by omega) ⟨#[]⟩ ⟨#[]⟩ 0 0 0 0 0 false 0 0 false 0 false A1 A2 (P.F k).np (P.F k).nr c1 c2 (P.F k).v (P.F k).u HG1.out HG2.out; rw [own_func hlt, eqT_self, eqT_self] at h; exact h)
      refine wpAnyR_one 5 rfl (by kernel_rfl) (fun K hK => ?_)
      go_simp
      go_at_call 10
      refine (HC1.out).mono ?_
      rintro e v4 ⟨rfl, hk⟩
      have hS2 := hS.kept hk
      have HS3 := Lib.hid (HS3.out.kept0 hk)
      have HK3 := Lib.hid (HK3.out.then0 hk)
      have HKF := Lib.hid (HKF.out.then0 hk)
      have HG1 := Lib.hid (HG1.out.kept hk)
      have HG2 := Lib.hid (HG2.out.kept hk)
      refine hK.out _ _ (fun _ => hS2) ?_
      clear hK K hS hk
      clear HC1
      (first | (refine tkR 6 (v := ?_) rfl hS2 ⟨by rfl, ?_⟩ ?_; rotate_left; intro w h; (try dsimp only at h); first | (go_simp; done) | (go_simp; with_reducible rfl)) | refine skR 6 rfl (fun _ => hS2) (by rfl) ?_); simp only [zq1, zq2, zq3, Act.put, zq4, zq5, zq6]
      (first | (refine tkR 7 (v := ?_) rfl hS2 ⟨by rfl, ?_⟩ ?_; rotate_left; intro w h; (try dsimp only at h); first | (go_simp; done) | (go_simp; with_reducible rfl)) | refine skR 7 rfl (fun _ => hS2) (by rfl) ?_); simp only [zq1, zq2, zq3, Act.put, zq4, zq5, zq6]
      (first | (refine tkR 8 (v := ?_) rfl hS2 ⟨by rfl, ?_⟩ ?_; rotate_left; intro w h; (try dsimp only at h); first | (go_simp; done) | (go_simp; with_reducible rfl)) | refine skR 8 rfl (fun _ => hS2) (by rfl) ?_); simp only [zq1, zq2, zq3, Act.put, zq4, zq5, zq6]
      refine tkR 9 (v := .agg #[.int .u8 0, .int .i64 (k : Int)]) rfl hS2 ⟨by rfl, fun w hSw => exec_load_row 25 _ rfl w _ rfl 25 #[.int .u8 0, .int .i64 (k : Int)] (0, 0) _ hSw.e Tryz.underlying25 rfl (by kernel_rfl)⟩ ?_; simp only [zq1, zq2, zq3, Act.put, zq4, zq5, zq6]
      (first | (refine tkR 10 (v := ?_) rfl hS2 ⟨by rfl, ?_⟩ ?_; rotate_left; intro w h; (try dsimp only at h); first | (go_simp; done) | (go_simp; with_reducible rfl)) | refine skR 10 rfl (fun _ => hS2) (by rfl) ?_); simp only [zq1, zq2, zq3, Act.put, zq4, zq5, zq6]
      refine tkR 11 (v := .agg #[.slice T mp cp, .slice R mr cr]) rfl hS2 ⟨by rfl, fun w hSw => exec_load_row 38 _ rfl w _ rfl 38 #[.slice T mp cp, .slice R mr cr] (0, 0) _ hSw.t Tryz.underlying38 rfl (by kernel_rfl)⟩ ?_; simp only [zq1, zq2, zq3, Act.put, zq4, zq5, zq6]
      refine tkR 14 (v := .agg #[.slice T mp cp, .slice R mr cr]) rfl hS2 ⟨by rfl, fun w hSw => exec_load_row 38 _ rfl w _ rfl 38 #[.slice T mp cp, .slice R mr cr] (0, 0) _ hSw.t Tryz.underlying38 rfl (by kernel_rfl)⟩ ?_; simp only [zq1, zq2, zq3, Act.put, zq4, zq5, zq6]
      (first | (refine tkR 15 (v := ?_) rfl hS2 ⟨by rfl, ?_⟩ ?_; rotate_left; intro w h; (try dsimp only at h); first | (go_simp; done) | (go_simp; with_reducible rfl)) | refine skR 15 rfl (fun _ => hS2) (by rfl) ?_); simp only [zq1, zq2, zq3, Act.put, zq4, zq5, zq6]
      refine tkR 16 (v := .agg #[.slice A1 (P.F k).np c1, .slice A2 (P.F k).nr c2]) rfl hS2 ⟨by rfl, fun w hSw => exec_load_cells 38 _ rfl w ⟨gb, 0, none⟩ rfl #[.slice A1 (P.F k).np c1, .slice A2 (P.F k).nr c2] _ (fun j hj => by rw [addr_add, Nat.zero_add]; exact hSw.g j hj) Tryz.underlying38 rfl (by kernel_rfl)⟩ ?_; simp only [zq1, zq2, zq3, Act.put, zq4, zq5, zq6]
      have HT4 := Lib.hid (HT.out.kept HK3.out)
      have HR4 := Lib.hid (HR'.out.kept HK3.out)
      cases hb : (eqT (P.F k).np mp (P.F k).v pv && eqT (P.F k).nr mr (P.F k).u ru)
      · have HC1 := Lib.hid (show Calls Tryz.prog 10 #[.pointer (some ⟨sb, 0, none⟩), .agg #[.int .u8 0, .int .i64 (k : Int)], .agg #[.string ⟨#[]⟩, .string ⟨#[]⟩, .int .u8 0, .int .u32 0, .int .u8 0, .int .u32 0, .int .u32 0, .bool false, .int .u32 0, .int .u32 0, .bool false, .int .u8 0, .bool false], .agg #[.slice T mp cp, .slice R mr cr]] v4 (fun e w' => e = .returned (.int .i64 10) ∧ Kept S0 v4 w') from by have h := fits_at HS3.out HP.out 0 (k : Int) (by omega) ⟨#[]⟩ ⟨#[]⟩ 0 0 0 0 0 false 0 0 false 0 false T R mp mr cp cr pv ru HT4.out HR4.out; rw [own_func hlt, hb] at h; exact h)
        have HBB := Lib.hid hb
        clear hb
        refine wpAnyR_one 12 rfl (by kernel_rfl) (fun K hK => ?_)
        go_simp
        go_at_call 10
        refine (HC1.out).mono ?_
        rintro e v5 ⟨rfl, hk⟩
        have hS5 := hS2.kept hk
        have HS3 := Lib.hid (HS3.out.kept0 hk)
        have HK3 := Lib.hid (HK3.out.then0 hk)
        have HKF := Lib.hid (HKF.out.then0 hk)
        have HG1 := Lib.hid (HG1.out.kept hk)
        have HG2 := Lib.hid (HG2.out.kept hk)
        have HT4 := Lib.hid (HT4.out.kept hk)
        have HR4 := Lib.hid (HR4.out.kept hk)
        refine hK.out _ _ (fun _ => hS5) ?_
        clear hK K hS2 hk
        clear HC1
        (first | (refine tkR 13 (v := ?_) rfl hS5 ⟨by rfl, ?_⟩ ?_; rotate_left; intro w h; (try dsimp only at h); first | (go_simp; done) | (go_simp; with_reducible rfl)) | refine skR 13 rfl (fun _ => hS5) (by rfl) ?_); simp only [zq1, zq2, zq3, Act.put, zq4, zq5, zq6]
        have HC2 := Lib.hid (show Calls Tryz.prog 15 #[.agg #[.slice T mp cp, .slice R mr cr], .agg #[.slice A1 (P.F k).np c1, .slice A2 (P.F k).nr c2]] v5 (fun e w' => e = .returned (.bool false) ∧ Kept S0 v5 w') from by have h := func_any T R A1 A2 mp mr (P.F k).np (P.F k).nr cp cr c1 c2 pv ru (P.F k).v (P.F k).u v5 HT4.out HR4.out HG1.out HG2.out; rw [eqT_comm mp, eqT_comm mr, HBB.out] at h; exact h)
        refine wpAnyR_one 17 rfl (by kernel_rfl) (fun K hK => ?_)
        go_simp
        go_at_call 15
        refine (HC2.out).mono ?_
        rintro e v6 ⟨rfl, hk⟩
        have hS6 := hS5.kept hk
        have HS3 := Lib.hid (HS3.out.kept0 hk)
        have HK3 := Lib.hid (HK3.out.then0 hk)
        have HKF := Lib.hid (HKF.out.then0 hk)
        have HG1 := Lib.hid (HG1.out.kept hk)
        have HG2 := Lib.hid (HG2.out.kept hk)
        refine hK.out _ _ (fun _ => hS6) ?_
        clear hK K hS5 hk
        clear HC2
        (first | (refine tkR 18 (v := ?_) rfl hS6 ⟨by rfl, ?_⟩ ?_; rotate_left; intro w h; (try dsimp only at h); first | (go_simp; done) | (go_simp; with_reducible rfl)) | refine skR 18 rfl (fun _ => hS6) (by rfl) ?_); simp only [zq1, zq2, zq3, Act.put, zq4, zq5, zq6]
        (first | (refine tkR 19 (v := ?_) rfl hS6 ⟨by rfl, ?_⟩ ?_; rotate_left; intro w h; (try dsimp only at h); first | (go_simp; done) | (go_simp; with_reducible rfl)) | refine skR 19 rfl (fun _ => hS6) (by rfl) ?_); simp only [zq1, zq2, zq3, Act.put, zq4, zq5, zq6]
        refine wpAnyR_done (by kernel_rfl) ?_ _
        clear hS6
        go_wp2_with fail
        go_roundw
        case rel => exact ⟨k + 1, by omega, by go_num, HKF.out⟩
        case measure => simp [intOf]; omega
      · have HC1 := Lib.hid (show Calls Tryz.prog 10 #[.pointer (some ⟨sb, 0, none⟩), .agg #[.int .u8 0, .int .i64 (k : Int)], .agg #[.string ⟨#[]⟩, .string ⟨#[]⟩, .int .u8 0, .int .u32 0, .int .u8 0, .int .u32 0, .int .u32 0, .bool false, .int .u32 0, .int .u32 0, .bool false, .int .u8 0, .bool false], .agg #[.slice T mp cp, .slice R mr cr]] v4 (fun e w' => e = .returned (.int .i64 0) ∧ Kept S0 v4 w') from by have h := fits_at HS3.out HP.out 0 (k : Int) (by omega) ⟨#[]⟩ ⟨#[]⟩ 0 0 0 0 0 false 0 0 false 0 false T R mp mr cp cr pv ru HT4.out HR4.out; rw [own_func hlt, hb] at h; exact h)
        have HBB := Lib.hid hb
        clear hb
        refine wpAnyR_one 12 rfl (by kernel_rfl) (fun K hK => ?_)
        go_simp
        go_at_call 10
        refine (HC1.out).mono ?_
        rintro e v5 ⟨rfl, hk⟩
        have hS5 := hS2.kept hk
        have HS3 := Lib.hid (HS3.out.kept0 hk)
        have HK3 := Lib.hid (HK3.out.then0 hk)
        have HKF := Lib.hid (HKF.out.then0 hk)
        have HG1 := Lib.hid (HG1.out.kept hk)
        have HG2 := Lib.hid (HG2.out.kept hk)
        have HT4 := Lib.hid (HT4.out.kept hk)
        have HR4 := Lib.hid (HR4.out.kept hk)
        refine hK.out _ _ (fun _ => hS5) ?_
        clear hK K hS2 hk
        clear HC1
        (first | (refine tkR 13 (v := ?_) rfl hS5 ⟨by rfl, ?_⟩ ?_; rotate_left; intro w h; (try dsimp only at h); first | (go_simp; done) | (go_simp; with_reducible rfl)) | refine skR 13 rfl (fun _ => hS5) (by rfl) ?_); simp only [zq1, zq2, zq3, Act.put, zq4, zq5, zq6]
        have HC2 := Lib.hid (show Calls Tryz.prog 15 #[.agg #[.slice T mp cp, .slice R mr cr], .agg #[.slice A1 (P.F k).np c1, .slice A2 (P.F k).nr c2]] v5 (fun e w' => e = .returned (.bool true) ∧ Kept S0 v5 w') from by have h := func_any T R A1 A2 mp mr (P.F k).np (P.F k).nr cp cr c1 c2 pv ru (P.F k).v (P.F k).u v5 HT4.out HR4.out HG1.out HG2.out; rw [eqT_comm mp, eqT_comm mr, HBB.out] at h; exact h)
        refine wpAnyR_one 17 rfl (by kernel_rfl) (fun K hK => ?_)
        go_simp
        go_at_call 15
        refine (HC2.out).mono ?_
        rintro e v6 ⟨rfl, hk⟩
        have hS6 := hS5.kept hk
        have HS3 := Lib.hid (HS3.out.kept0 hk)
        have HK3 := Lib.hid (HK3.out.then0 hk)
        have HKF := Lib.hid (HKF.out.then0 hk)
        have HG1 := Lib.hid (HG1.out.kept hk)
        have HG2 := Lib.hid (HG2.out.kept hk)
        refine hK.out _ _ (fun _ => hS6) ?_
        clear hK K hS5 hk
        clear HC2
        (first | (refine tkR 18 (v := ?_) rfl hS6 ⟨by rfl, ?_⟩ ?_; rotate_left; intro w h; (try dsimp only at h); first | (go_simp; done) | (go_simp; with_reducible rfl)) | refine skR 18 rfl (fun _ => hS6) (by rfl) ?_); simp only [zq1, zq2, zq3, Act.put, zq4, zq5, zq6]
        (first | (refine tkR 19 (v := ?_) rfl hS6 ⟨by rfl, ?_⟩ ?_; rotate_left; intro w h; (try dsimp only at h); first | (go_simp; done) | (go_simp; with_reducible rfl)) | refine skR 19 rfl (fun _ => hS6) (by rfl) ?_); simp only [zq1, zq2, zq3, Act.put, zq4, zq5, zq6]
        refine wpAnyR_done (by kernel_rfl) ?_ _
        clear hS6
        go_wp2_with fail
        go_roundw
        case rel => exact ⟨k + 1, by omega, by go_num, HKF.out⟩
        case measure => simp [intOf]; omega
    · obtain rfl : k = P.nf := by omega
      obtain ⟨wz1, hwz⟩ : ∃ wz, wz = wr := ⟨_, rfl⟩
      subst hwz
      have HS := Lib.hid (HS.out.kept0 HKW.out)
      have HN := Lib.hid (HKW.out.blk HN.out (fun x => x))
      have HX := Lib.hid (HKW.out.blk HX.out (fun x => x))
      have HK := Lib.hid (HK.out.then0 HKW.out)
      clear HKW hk hlt hcnt
      go_wp2_with fail
      clear qn
      go_loopw [13] (fun i wr => ∃ k : Nat, k ≤ P.nt ∧ i = .int .i64 (k : Int) ∧ Kept S0 wz1 wr) (fun i _ => P.nt - (intOf i).toNat)
      case atStart => exact ⟨0, by omega, rfl, Kept.refl _ _⟩
      case round =>
        obtain ⟨k, hk, rfl, hkw⟩ := hrel
        have HKW := Lib.hid hkw
        clear hkw
        have qn : wr.cell? ⟨nb, 1, none⟩ = some (.int .i64 (P.nt : Int)) := keep0 HKW.out (HN.out.cell 1)
        have hcnt := HP.out.t
        by_cases hlt : k < P.nt
        · have HSR := Lib.hid (HS.out.kept0 HKW.out)
          have hx := (HSR.out.tb k hlt).hn
          obtain ⟨tb, tm, lt, hF, hY, _⟩ := (HSR.out.tb k hlt).ex
          have HYF := Lib.hid hF
          have HYN := Lib.hid hx
          clear hF hx
          have HY := Lib.hid hY
          clear hY
          go_wp2_with fail
          refine (gettable_in k _ HSR.out.ls.obj HSR.out.ls.t (by omega) hlt HYF.out).mono ?_
          rintro e v1 ⟨rfl, rfl⟩
          go_wp2_with fail
          have HX3 := Lib.hid (HKW.out.drew.blk HX.out (fun x => x))
          have HKF := Lib.hid HKW.out.drew
          have HK3 := Lib.hid (HK.out.then0 HKW.out.drew)
          have HS3 := Lib.hid (HS.out.kept0 HKW.out.drew)
          have HY3 := Lib.hid (HY.out.kept0 ((Kept.refl S0 _).drew))
          clear HY HSR qn
          refine wp_region_R (fun w' => Blk w' tx 38 #[.slice T mp cp, .slice R mr cr]) [] (by kernel_rfl) ?_
          generalize World.drew wr = v3 at *
          have hS : Blk v3 tx 38 #[.slice T mp cp, .slice R mr cr] := HX3.out
          (first | (refine tkR 0 (v := ?_) rfl hS ⟨by rfl, ?_⟩ ?_; rotate_left; intro w h; (try dsimp only at h); first | (go_simp; done) | (go_simp; with_reducible rfl)) | refine skR 0 rfl (fun _ => hS) (by rfl) ?_); simp only [zq1, zq2, Act.put, zq4, zq5, zq6]
          (first | (refine tkR 1 (v := ?_) rfl hS ⟨by rfl, ?_⟩ ?_; rotate_left; intro w h; (try dsimp only at h); first | (go_simp; done) | (go_simp; with_reducible rfl)) | refine skR 1 rfl (fun _ => hS) (by rfl) ?_); simp only [zq1, zq2, zq3, Act.put, zq4, zq5, zq6]
          (first | (refine tkR 2 (v := ?_) rfl hS ⟨by rfl, ?_⟩ ?_; rotate_left; intro w h; (try dsimp only at h); first | (go_simp; done) | (go_simp; with_reducible rfl)) | refine skR 2 rfl (fun _ => hS) (by rfl) ?_); simp only [zq1, zq2, zq3, Act.put, zq4, zq5, zq6]
          (first | (refine tkR 3 (v := ?_) rfl hS ⟨by rfl, ?_⟩ ?_; rotate_left; intro w h; (try dsimp only at h); first | (go_simp; done) | (go_simp; with_reducible rfl)) | refine skR 3 rfl (fun _ => hS) (by rfl) ?_); simp only [zq1, zq2, zq3, Act.put, zq4, zq5, zq6]
          refine tkR 6 (v := .agg #[.slice T mp cp, .slice R mr cr]) rfl hS ⟨by rfl, fun w hSw => exec_load_row 38 _ rfl w _ rfl 38 #[.slice T mp cp, .slice R mr cr] (0, 0) _ hSw Tryz.underlying38 rfl (by kernel_rfl)⟩ ?_; simp only [zq1, zq2, zq3, Act.put, zq4, zq5, zq6]
          refine wpAnyR_one 4 rfl (by kernel_rfl) (fun K hK => ?_)
          go_simp
          go_at_call 17
          refine (T20.type_made HY3.out HYN.out).mono ?_
          rintro e v4 ⟨rfl, hk⟩
          have hS2 := hk.blk hS (fun x => x)
          have HKF := Lib.hid (HKF.out.then0 hk)
          have HK3 := Lib.hid (HK3.out.then0 hk)
          have HS3 := Lib.hid (HS3.out.kept0 hk)
          refine hK.out _ _ (fun _ => hS2) ?_
          clear hK K hS hk
          (first | (refine tkR 5 (v := ?_) rfl hS2 ⟨by rfl, ?_⟩ ?_; rotate_left; intro w h; (try dsimp only at h); first | (go_simp; done) | (go_simp; with_reducible rfl)) | refine skR 5 rfl (fun _ => hS2) (by rfl) ?_); simp only [zq1, zq2, zq3, Act.put, zq4, zq5, zq6]
          have HC := Lib.hid (show Calls Tryz.prog 10 #[.pointer (some ⟨sb, 0, none⟩), .agg #[.int .u8 1, .int .i64 (k : Int)], .agg #[.string ⟨#[]⟩, .string ⟨#[]⟩, .int .u8 1, .int .u32 0, .int .u8 ((P.T k).el), .int .u32 ((P.T k).n : Int), .int .u32 (P.T k).mx, .bool (P.T k).bd, .int .u32 0, .int .u32 0, .bool false, .int .u8 0, .bool false], .agg #[.slice T mp cp, .slice R mr cr]] v4 (fun e w' => e = .returned (.int .i64 0) ∧ Kept S0 v4 w') from by have h := fits_at HS3.out HP.out 1 (k : Int) (by omega) ⟨#[]⟩ ⟨#[]⟩ 1 0 ((P.T k).el) ((P.T k).n : Int) (P.T k).mx (P.T k).bd 0 0 false 0 false T R mp mr cp cr pv ru (HT.out.kept HK3.out) (HR'.out.kept HK3.out); rw [own_tab hlt] at h; exact h)
          refine wpAnyR_one 7 rfl (by kernel_rfl) (fun K hK => ?_)
          go_simp
          go_at_call 10
          refine HC.out.mono ?_
          rintro e v5 ⟨rfl, hk⟩
          have hS3 := hk.blk hS2 (fun x => x)
          have HKF := Lib.hid (HKF.out.then0 hk)
          refine hK.out _ _ (fun _ => hS3) ?_
          clear hK K hS2 hk HC
          (first | (refine tkR 8 (v := ?_) rfl hS3 ⟨by rfl, ?_⟩ ?_; rotate_left; intro w h; (try dsimp only at h); first | (go_simp; done) | (go_simp; with_reducible rfl)) | refine skR 8 rfl (fun _ => hS3) (by rfl) ?_); simp only [zq1, zq2, zq3, Act.put, zq4, zq5, zq6]
          refine wpAnyR_done (by kernel_rfl) ?_ _
          clear hS3
          go_wp2_with fail
          go_roundw
          case rel => exact ⟨k + 1, by omega, by go_num, HKF.out⟩
          case measure => simp [intOf]; omega
        · obtain rfl : k = P.nt := by omega
          obtain ⟨wz2, hwz⟩ : ∃ wz, wz = wr := ⟨_, rfl⟩
          subst hwz
          have HS := Lib.hid (HS.out.kept0 HKW.out)
          have HN := Lib.hid (HKW.out.blk HN.out (fun x => x))
          have HX := Lib.hid (HKW.out.blk HX.out (fun x => x))
          have HK := Lib.hid (HK.out.then0 HKW.out)
          clear HKW hk hlt hcnt
          go_wp2_with fail
          clear qn
          go_loopw [16] (fun i wr => ∃ k : Nat, k ≤ P.nm ∧ i = .int .i64 (k : Int) ∧ Kept S0 wz2 wr) (fun i _ => P.nm - (intOf i).toNat)
          case atStart => exact ⟨0, by omega, rfl, Kept.refl _ _⟩
          case round =>
            obtain ⟨k, hk, rfl, hkw⟩ := hrel
            have HKW := Lib.hid hkw
            clear hkw
            have qn : wr.cell? ⟨nb, 2, none⟩ = some (.int .i64 (P.nm : Int)) := keep0 HKW.out (HN.out.cell 2)
            have hcnt := HP.out.m
            by_cases hlt : k < P.nm
            · have HSR := Lib.hid (HS.out.kept0 HKW.out)
              have hx := (HSR.out.mm k hlt).hp
              obtain ⟨pb, bb, tm, ff, hF, hY, _⟩ := (HSR.out.mm k hlt).ex
              have HYF := Lib.hid hF
              have HYN := Lib.hid hx
              clear hF hx
              have HY := Lib.hid hY
              clear hY
              go_wp2_with fail
              refine (getmem_in k _ HSR.out.ls.obj HSR.out.ls.m (by omega) hlt HYF.out).mono ?_
              rintro e v1 ⟨rfl, rfl⟩
              go_wp2_with fail
              have HX3 := Lib.hid (HKW.out.drew.blk HX.out (fun x => x))
              have HKF := Lib.hid HKW.out.drew
              have HK3 := Lib.hid (HK.out.then0 HKW.out.drew)
              have HS3 := Lib.hid (HS.out.kept0 HKW.out.drew)
              have HY3 := Lib.hid (HY.out.kept0 ((Kept.refl S0 _).drew))
              clear HY HSR qn
              refine wp_region_R (fun w' => Blk w' tx 38 #[.slice T mp cp, .slice R mr cr]) [] (by kernel_rfl) ?_
              generalize World.drew wr = v3 at *
              have hS : Blk v3 tx 38 #[.slice T mp cp, .slice R mr cr] := HX3.out
              (first | (refine tkR 0 (v := ?_) rfl hS ⟨by rfl, ?_⟩ ?_; rotate_left; intro w h; (try dsimp only at h); first | (go_simp; done) | (go_simp; with_reducible rfl)) | refine skR 0 rfl (fun _ => hS) (by rfl) ?_); simp only [zq1, zq2, Act.put, zq4, zq5, zq6]
              (first | (refine tkR 1 (v := ?_) rfl hS ⟨by rfl, ?_⟩ ?_; rotate_left; intro w h; (try dsimp only at h); first | (go_simp; done) | (go_simp; with_reducible rfl)) | refine skR 1 rfl (fun _ => hS) (by rfl) ?_); simp only [zq1, zq2, zq3, Act.put, zq4, zq5, zq6]
              (first | (refine tkR 2 (v := ?_) rfl hS ⟨by rfl, ?_⟩ ?_; rotate_left; intro w h; (try dsimp only at h); first | (go_simp; done) | (go_simp; with_reducible rfl)) | refine skR 2 rfl (fun _ => hS) (by rfl) ?_); simp only [zq1, zq2, zq3, Act.put, zq4, zq5, zq6]
              (first | (refine tkR 3 (v := ?_) rfl hS ⟨by rfl, ?_⟩ ?_; rotate_left; intro w h; (try dsimp only at h); first | (go_simp; done) | (go_simp; with_reducible rfl)) | refine skR 3 rfl (fun _ => hS) (by rfl) ?_); simp only [zq1, zq2, zq3, Act.put, zq4, zq5, zq6]
              refine tkR 6 (v := .agg #[.slice T mp cp, .slice R mr cr]) rfl hS ⟨by rfl, fun w hSw => exec_load_row 38 _ rfl w _ rfl 38 #[.slice T mp cp, .slice R mr cr] (0, 0) _ hSw Tryz.underlying38 rfl (by kernel_rfl)⟩ ?_; simp only [zq1, zq2, zq3, Act.put, zq4, zq5, zq6]
              refine wpAnyR_one 4 rfl (by kernel_rfl) (fun K hK => ?_)
              go_simp
              go_at_call 19
              refine ((show Calls Tryz.prog 19 #[.pointer (some ⟨pb, 0, none⟩)] v3 (fun e w' => e = .returned (.agg #[.int .u32 ((P.M k).pg : Int), .int .u32 (P.M k).mx, .bool (P.M k).bd]) ∧ Kept S0 v3 w') from by have h := M19.type_made HY3.out (by have := HYN.out; omega); rwa [show (((P.M k).pg * 65536 / 65536 : Nat) : Int) = (P.M k).pg from by omega] at h)).mono ?_
              rintro e v4 ⟨rfl, hk⟩
              have hS2 := hk.blk hS (fun x => x)
              have HKF := Lib.hid (HKF.out.then0 hk)
              have HK3 := Lib.hid (HK3.out.then0 hk)
              have HS3 := Lib.hid (HS3.out.kept0 hk)
              refine hK.out _ _ (fun _ => hS2) ?_
              clear hK K hS hk
              (first | (refine tkR 5 (v := ?_) rfl hS2 ⟨by rfl, ?_⟩ ?_; rotate_left; intro w h; (try dsimp only at h); first | (go_simp; done) | (go_simp; with_reducible rfl)) | refine skR 5 rfl (fun _ => hS2) (by rfl) ?_); simp only [zq1, zq2, zq3, Act.put, zq4, zq5, zq6]
              have HC := Lib.hid (show Calls Tryz.prog 10 #[.pointer (some ⟨sb, 0, none⟩), .agg #[.int .u8 2, .int .i64 (k : Int)], .agg #[.string ⟨#[]⟩, .string ⟨#[]⟩, .int .u8 2, .int .u32 0, .int .u8 0, .int .u32 0, .int .u32 0, .bool false, .int .u32 ((P.M k).pg : Int), .int .u32 (P.M k).mx, .bool (P.M k).bd, .int .u8 0, .bool false], .agg #[.slice T mp cp, .slice R mr cr]] v4 (fun e w' => e = .returned (.int .i64 0) ∧ Kept S0 v4 w') from by have h := fits_at HS3.out HP.out 2 (k : Int) (by omega) ⟨#[]⟩ ⟨#[]⟩ 2 0 0 0 0 false ((P.M k).pg : Int) (P.M k).mx (P.M k).bd 0 false T R mp mr cp cr pv ru (HT.out.kept HK3.out) (HR'.out.kept HK3.out); rw [own_mem hlt] at h; exact h)
              refine wpAnyR_one 7 rfl (by kernel_rfl) (fun K hK => ?_)
              go_simp
              go_at_call 10
              refine HC.out.mono ?_
              rintro e v5 ⟨rfl, hk⟩
              have hS3 := hk.blk hS2 (fun x => x)
              have HKF := Lib.hid (HKF.out.then0 hk)
              refine hK.out _ _ (fun _ => hS3) ?_
              clear hK K hS2 hk HC
              (first | (refine tkR 8 (v := ?_) rfl hS3 ⟨by rfl, ?_⟩ ?_; rotate_left; intro w h; (try dsimp only at h); first | (go_simp; done) | (go_simp; with_reducible rfl)) | refine skR 8 rfl (fun _ => hS3) (by rfl) ?_); simp only [zq1, zq2, zq3, Act.put, zq4, zq5, zq6]
              refine wpAnyR_done (by kernel_rfl) ?_ _
              clear hS3
              go_wp2_with fail
              go_roundw
              case rel => exact ⟨k + 1, by omega, by go_num, HKF.out⟩
              case measure => simp [intOf]; omega
            · obtain rfl : k = P.nm := by omega
              obtain ⟨wz3, hwz⟩ : ∃ wz, wz = wr := ⟨_, rfl⟩
              subst hwz
              have HS := Lib.hid (HS.out.kept0 HKW.out)
              have HN := Lib.hid (HKW.out.blk HN.out (fun x => x))
              have HX := Lib.hid (HKW.out.blk HX.out (fun x => x))
              have HK := Lib.hid (HK.out.then0 HKW.out)
              clear HKW hk hlt hcnt
              go_wp2_with fail
              clear qn
              go_loopw [19] (fun i wr => ∃ k : Nat, k ≤ P.ng ∧ i = .int .i64 (k : Int) ∧ Kept S0 wz3 wr) (fun i _ => P.ng - (intOf i).toNat)
              case atStart => exact ⟨0, by omega, rfl, Kept.refl _ _⟩
              case round =>
                obtain ⟨k, hk, rfl, hkw⟩ := hrel
                have HKW := Lib.hid hkw
                clear hkw
                have qn : wr.cell? ⟨nb, 3, none⟩ = some (.int .i64 (P.ng : Int)) := keep0 HKW.out (HN.out.cell 3)
                have hcnt := HP.out.g
                by_cases hlt : k < P.ng
                · have HSR := Lib.hid (HS.out.kept0 HKW.out)
                  have hg := HSR.out.st.gl k hlt
                  have HG := Lib.hid hg
                  clear hg
                  go_wp2_with fail
                  refine (getglob_in k (P.G k).t (P.G k).m (P.G k).x.t (P.G k).x.lo (P.G k).x.hi HSR.out.ls.obj HSR.out.ls.g (by omega) hlt HG.out.f0 HG.out.f1 HG.out.f2 HG.out.f3 HG.out.f4).mono ?_
                  rintro e v1 ⟨rfl, hk1⟩
                  have HKF := Lib.hid (HKW.out.then0 hk1)
                  clear hk1 HSR qn
                  go_upto_region 31 with fail
                  have hal : Kept S0 v1 ((((v1.alloc (.cells #[.int .u8 (P.G k).t, .bool (P.G k).m] 33)).alloc (.cells #[.int .u8 (P.G k).x.t, .int .u64 (P.G k).x.lo, .int .u64 (P.G k).x.hi] 65)).alloc (.cells #[.int .u8 (P.G k).t, .bool (!(P.G k).m)] 33)).alloc (.cells #[.int .u8 3, .int .i64 (k : Int)] 25)) := ((((Kept.refl S0 v1).alloc _).alloc _).alloc _).alloc _
                  have hgb : Blk ((((v1.alloc (.cells #[.int .u8 (P.G k).t, .bool (P.G k).m] 33)).alloc (.cells #[.int .u8 (P.G k).x.t, .int .u64 (P.G k).x.lo, .int .u64 (P.G k).x.hi] 65)).alloc (.cells #[.int .u8 (P.G k).t, .bool (!(P.G k).m)] 33)).alloc (.cells #[.int .u8 3, .int .i64 (k : Int)] 25)) v1.heap.size 33 #[.int .u8 (P.G k).t, .bool (P.G k).m] := (((Blk.new v1 _ _).alloc _).alloc _).alloc _
                  have hob : Blk ((((v1.alloc (.cells #[.int .u8 (P.G k).t, .bool (P.G k).m] 33)).alloc (.cells #[.int .u8 (P.G k).x.t, .int .u64 (P.G k).x.lo, .int .u64 (P.G k).x.hi] 65)).alloc (.cells #[.int .u8 (P.G k).t, .bool (!(P.G k).m)] 33)).alloc (.cells #[.int .u8 3, .int .i64 (k : Int)] 25)) (v1.heap.size + 1 + 1) 33 #[.int .u8 (P.G k).t, .bool (!(P.G k).m)] := by
                    have h := Blk.new ((v1.alloc (.cells #[.int .u8 (P.G k).t, .bool (P.G k).m] 33)).alloc (.cells #[.int .u8 (P.G k).x.t, .int .u64 (P.G k).x.lo, .int .u64 (P.G k).x.hi] 65)) 33 #[.int .u8 (P.G k).t, .bool (!(P.G k).m)]
                    have h2 := h.alloc (.cells #[.int .u8 3, .int .i64 (k : Int)] 25)
                    simpa using h2
                  have heb : Blk ((((v1.alloc (.cells #[.int .u8 (P.G k).t, .bool (P.G k).m] 33)).alloc (.cells #[.int .u8 (P.G k).x.t, .int .u64 (P.G k).x.lo, .int .u64 (P.G k).x.hi] 65)).alloc (.cells #[.int .u8 (P.G k).t, .bool (!(P.G k).m)] 33)).alloc (.cells #[.int .u8 3, .int .i64 (k : Int)] 25)) (v1.heap.size + 1 + 1 + 1) 25 #[.int .u8 3, .int .i64 (k : Int)] := by
                    have h := Blk.new (((v1.alloc (.cells #[.int .u8 (P.G k).t, .bool (P.G k).m] 33)).alloc (.cells #[.int .u8 (P.G k).x.t, .int .u64 (P.G k).x.lo, .int .u64 (P.G k).x.hi] 65)).alloc (.cells #[.int .u8 (P.G k).t, .bool (!(P.G k).m)] 33)) 25 #[.int .u8 3, .int .i64 (k : Int)]
                    simpa using h
                  have HKF := Lib.hid (HKF.out.then0 hal)
                  have HGB := Lib.hid hgb
                  have HOB := Lib.hid hob
                  have HEB := Lib.hid heb
                  clear hal hgb hob heb
                  generalize v1.heap.size + 1 + 1 + 1 = eb at *
                  generalize v1.heap.size + 1 + 1 = ob at *
                  generalize v1.heap.size = gb at *
                  generalize ((((v1.alloc (.cells #[.int .u8 (P.G k).t, .bool (P.G k).m] 33)).alloc (.cells #[.int .u8 (P.G k).x.t, .int .u64 (P.G k).x.lo, .int .u64 (P.G k).x.hi] 65)).alloc (.cells #[.int .u8 (P.G k).t, .bool (!(P.G k).m)] 33)).alloc (.cells #[.int .u8 3, .int .i64 (k : Int)] 25)) = v2 at *
                  have HXF := Lib.hid (HKF.out.blk HX.out (fun x => x))
                  have HSF := Lib.hid (HS.out.kept0 HKF.out)
                  have HKT := Lib.hid (HK.out.then0 HKF.out)
                  have qe0 : v2.cell? ⟨eb, 0, none⟩ = some (.int .u8 3) := HEB.out.cell 0
                  have qe1 : v2.cell? ⟨eb, 1, none⟩ = some (.int .i64 (k : Int)) := HEB.out.cell 1
                  have qg0 : v2.cell? ⟨gb, 0, none⟩ = some (.int .u8 (P.G k).t) := HGB.out.cell 0
                  have qg1 : v2.cell? ⟨gb, 1, none⟩ = some (.bool (P.G k).m) := HGB.out.cell 1
                  have qt0 : v2.cell? ⟨tx, 0, none⟩ = some (.slice T mp cp) := HXF.out.cell 0
                  have qt1 : v2.cell? ⟨tx, 1, none⟩ = some (.slice R mr cr) := HXF.out.cell 1
                  go_wp2_with fail
                  refine (show Calls Tryz.prog 10 #[.pointer (some ⟨sb, 0, none⟩), .agg #[.int .u8 3, .int .i64 (k : Int)], .agg #[.string ⟨#[]⟩, .string ⟨#[]⟩, .int .u8 3, .int .u32 0, .int .u8 0, .int .u32 0, .int .u32 0, .bool false, .int .u32 0, .int .u32 0, .bool false, .int .u8 (P.G k).t, .bool (P.G k).m], .agg #[.slice T mp cp, .slice R mr cr]] _ (fun e w' => e = .returned (.int .i64 0) ∧ Kept S0 _ w') from by have h := fits_at HSF.out HP.out 3 (k : Int) (by omega) ⟨#[]⟩ ⟨#[]⟩ 3 0 0 0 0 false 0 0 false (P.G k).t (P.G k).m T R mp mr cp cr pv ru (HT.out.kept HKT.out) (HR'.out.kept HKT.out); rw [own_glob hlt] at h; exact h).mono ?_
                  rintro e v3 ⟨rfl, hk⟩
                  have HSF := Lib.hid (HSF.out.kept0 hk)
                  have HKF := Lib.hid (HKF.out.then0 hk)
                  have HKT := Lib.hid (HKT.out.then0 hk)
                  have HGB := Lib.hid (hk.blk HGB.out (fun x => x))
                  have HOB := Lib.hid (hk.blk HOB.out (fun x => x))
                  have HEB := Lib.hid (hk.blk HEB.out (fun x => x))
                  have HXF := Lib.hid (hk.blk HXF.out (fun x => x))
                  clear hk
                  clear qe0 qe1 qg0 qg1 qt0 qt1
                  have qe0 : v3.cell? ⟨eb, 0, none⟩ = some (.int .u8 3) := HEB.out.cell 0
                  have qe1 : v3.cell? ⟨eb, 1, none⟩ = some (.int .i64 (k : Int)) := HEB.out.cell 1
                  have qo0 : v3.cell? ⟨ob, 0, none⟩ = some (.int .u8 (P.G k).t) := HOB.out.cell 0
                  have qo1 : v3.cell? ⟨ob, 1, none⟩ = some (.bool (!(P.G k).m)) := HOB.out.cell 1
                  have qt0 : v3.cell? ⟨tx, 0, none⟩ = some (.slice T mp cp) := HXF.out.cell 0
                  have qt1 : v3.cell? ⟨tx, 1, none⟩ = some (.slice R mr cr) := HXF.out.cell 1
                  go_wp2_with fail
                  refine (show Calls Tryz.prog 10 #[.pointer (some ⟨sb, 0, none⟩), .agg #[.int .u8 3, .int .i64 (k : Int)], .agg #[.string ⟨#[]⟩, .string ⟨#[]⟩, .int .u8 3, .int .u32 0, .int .u8 0, .int .u32 0, .int .u32 0, .bool false, .int .u32 0, .int .u32 0, .bool false, .int .u8 (P.G k).t, .bool (!(P.G k).m)], .agg #[.slice T mp cp, .slice R mr cr]] _ (fun e w' => e = .returned (.int .i64 10) ∧ Kept S0 _ w') from by have h := fits_at HSF.out HP.out 3 (k : Int) (by omega) ⟨#[]⟩ ⟨#[]⟩ 3 0 0 0 0 false 0 0 false (P.G k).t (!(P.G k).m) T R mp mr cp cr pv ru (HT.out.kept HKT.out) (HR'.out.kept HKT.out); rw [other_glob hlt] at h; exact h).mono ?_
                  rintro e v4 ⟨rfl, hk⟩
                  have HSF := Lib.hid (HSF.out.kept0 hk)
                  have HKF := Lib.hid (HKF.out.then0 hk)
                  have HKT := Lib.hid (HKT.out.then0 hk)
                  have HGB := Lib.hid (hk.blk HGB.out (fun x => x))
                  have HOB := Lib.hid (hk.blk HOB.out (fun x => x))
                  have HEB := Lib.hid (hk.blk HEB.out (fun x => x))
                  have HXF := Lib.hid (hk.blk HXF.out (fun x => x))
                  clear hk
                  clear qe0 qe1 qo0 qo1 qt0 qt1
                  have qe0 : v4.cell? ⟨eb, 0, none⟩ = some (.int .u8 3) := HEB.out.cell 0
                  have qe1 : v4.cell? ⟨eb, 1, none⟩ = some (.int .i64 (k : Int)) := HEB.out.cell 1
                  have qt0 : v4.cell? ⟨tx, 0, none⟩ = some (.slice T mp cp) := HXF.out.cell 0
                  have qt1 : v4.cell? ⟨tx, 1, none⟩ = some (.slice R mr cr) := HXF.out.cell 1
                  go_wp2_with fail
                  refine (show Calls Tryz.prog 10 #[.pointer (some ⟨sb, 0, none⟩), .agg #[.int .u8 3, .int .i64 (k : Int)], .agg #[.string ⟨#[]⟩, .string ⟨#[]⟩, .int .u8 2, .int .u32 0, .int .u8 0, .int .u32 0, .int .u32 0, .bool false, .int .u32 0, .int .u32 0, .bool false, .int .u8 0, .bool false], .agg #[.slice T mp cp, .slice R mr cr]] _ (fun e w' => e = .returned (.int .i64 10) ∧ Kept S0 _ w') from by have h := fits_at HSF.out HP.out 3 (k : Int) (by omega) ⟨#[]⟩ ⟨#[]⟩ 2 0 0 0 0 false 0 0 false 0 false T R mp mr cp cr pv ru (HT.out.kept HKT.out) (HR'.out.kept HKT.out); rw [kind_glob hlt] at h; exact h).mono ?_
                  rintro e v5 ⟨rfl, hk⟩
                  have HSF := Lib.hid (HSF.out.kept0 hk)
                  have HKF := Lib.hid (HKF.out.then0 hk)
                  have HKT := Lib.hid (HKT.out.then0 hk)
                  have HGB := Lib.hid (hk.blk HGB.out (fun x => x))
                  have HOB := Lib.hid (hk.blk HOB.out (fun x => x))
                  have HEB := Lib.hid (hk.blk HEB.out (fun x => x))
                  have HXF := Lib.hid (hk.blk HXF.out (fun x => x))
                  clear hk
                  clear qe0 qe1 qt0 qt1
                  go_wp2_with fail
                  go_roundw
                  case rel => exact ⟨k + 1, by omega, by go_num, HKF.out⟩
                  case measure => simp [intOf]; omega
                · obtain rfl : k = P.ng := by omega
                  go_wp2_with fail
                  refine (lives_any _).mono ?_
                  rintro e v1 ⟨rfl, hk1⟩
                  have HKF := Lib.hid (HK.out.then0 (HKW.out.then0 hk1))
                  clear hk1
                  go_wp2_with fail
                  go_ret
                  exact ⟨rfl, HKF.out⟩
end Go.Proofs.YtlnkdnmeikpckaaGreat
namespace Go.Proofs.YtlnkdnmeikpckaaGreat
open Go.ChangeShapes Go.WideShapes Go.ChangeAt Go.RowKit Go.Joins
set_option maxRecDepth 100000
set_option maxRecDepth 100000 in
set_option maxHeartbeats 1600000 in
theorem storeOwn_lifted (os : Os) (started : os.Started) (H : Type) (enc : TypeId × Value → H) :
    ReturnsInHanded {} Tryz.checked os 4 .any (Rows.storeOwnSpec.pre6 enc Tryz.prog Tryz.f4 Rows.storeOwnRow.domain false) (Rows.storeOwnSpec.post enc Tryz.prog Tryz.f4 false true false false) := by
  refine returnsInHanded_of_change_sized (C := Tryz.checked) Tryz.own started (by kernel_rfl) Tryz.func4
    (ChangeSpec.witness6 (enc := enc) (C := Tryz.checked) false ⟨#[], #[.slice none 0 0, .agg #[.slice none 0 0, .slice none 0 0]], []⟩ 8 (by kernel_rfl) (by kernel_rfl) (by kernel_rfl) (by kernel_rfl)) ?_
  intro W base args ds gs before hval0 hW hcnd hsz0 _
  have hsz : (DataW.weightsEach Tryz.prog (Tryz.f4.params.toList ++ Rows.storeOwnSpec.plain.varTypes Tryz.prog) (ds ++ gs)).all (· ≤ reachBytes) = true := hsz0
  clear hsz0
  have hval : ∀ (j : Nat) t v, Tryz.f4.params[j]? = some t → args[j]? = some v → Value.okWide Tryz.prog W .any base t v := hval0
  have hW' := hW
  obtain ⟨p, q, hA0, hV, rfl, hfz, hnd⟩ := hW
  have hA : DataW.TrodAll enc Tryz.prog W 0 (fun _ => true) true Tryz.f4.params.toList args.toList ds p := hA0
  rw [Tryz.params4] at hA hval hsz
  have hrd := fun j t v => rd_params (ts2 := Rows.storeOwnSpec.plain.varTypes Tryz.prog) (gs := gs) hA j t v
  have hws : ∀ q ∈ DataW.weightsEach Tryz.prog (_ ++ Rows.storeOwnSpec.plain.varTypes Tryz.prog) (ds ++ gs), q ≤ reachBytes := fun q hq => of_decide_eq_true (List.all_eq_true.1 hsz q hq)
  obtain ⟨v0, vs0, d0, ds0, p0, q0, hargs0, rfl, rfl, h0, r0⟩ := trodAll_cons hA
  obtain ⟨v1, vs1, d1, ds1, p1, q1, hargs1, rfl, rfl, h1, r1⟩ := trodAll_cons r0
  obtain ⟨hargsN, rfl, rfl⟩ := trodAll_nil r1
  obtain rfl : args = #[v0, v1] := by
    apply Array.toList_inj.1
    rw [hargs0, hargs1, hargsN]
  obtain ⟨rfl, rfl⟩ := trodVars_none hV
  have g0 := hrd 0 22 v0 rfl rfl
  obtain ⟨l_A, l_n, l_c, hv0⟩ := okWide_slice Tryz.underlying22 (hval 0 22 v0 rfl rfl)
  subst hv0
  have g1 := hrd 1 38 v1 rfl rfl
  obtain ⟨cs1, hcs1, _⟩ := okWide_struct Tryz.underlying38 (hval 1 38 v1 rfl rfl)
  obtain ⟨f_p_A, f_p_n, f_p_c, f_r_A, f_r_n, f_r_c, e1, b1_0, b1_1⟩ := dec_FT g1
  obtain rfl := rd_agg Tryz.underlying38 hcs1 e1
  obtain ⟨D, X, hacts, hlen⟩ := actl_of_rd hws g0
  obtain ⟨pv, hp⟩ := tsl_rd' b1_0 hws
  obtain ⟨rv, hr⟩ := tsl_rd' b1_1 hws
  refine (own_law l_A l_n l_c D X f_p_A f_r_A f_p_n f_r_n f_p_c f_r_c pv rv W hp hr hacts hlen).mono fun e W' ⟨he, hk⟩ => ?_
  subst he
  refine ⟨_, rfl, post_law Tryz.laidOut ?_ hW' rfl Tryz.underlying4 (by kernel_rfl) rfl hk.below0⟩
  rw [Tryz.params4]
  intro t ht
  simp at ht
  rcases ht with rfl | rfl <;> exact ⟨by kernel_rfl, of_decide_eq_true (by kernel_rfl)⟩
theorem storeOwn_holds : Rows.StoreOwnSaid :=
  OpenClaim.holds_of_wide 4 Tryz.f4 rfl rfl rfl rfl rfl rfl rfl ⟨rfl, rfl, rfl, rfl, rfl⟩ rfl rfl rfl rfl rfl (by kernel_rfl) Tryz.func4 (by kernel_rfl)
    (of_decide_eq_true (by kernel_rfl)) (by unfold Func.isWrapper; rw [if_neg (of_decide_eq_false (by kernel_rfl))]; exact ⟨rfl, rfl⟩)
    (fun os started H enc _ => storeOwn_lifted os started H enc)
end Go.Proofs.YtlnkdnmeikpckaaGreat
