/- What the proofs lean on, part 10 of St. No condition. -/
import Derived.Test.YtlnkdnmeikpckaaGreatMSta
import Derived.Test.YtlnkdnmeikpckaaGreatMStb
import Derived.Test.YtlnkdnmeikpckaaGreatMStc
import Derived.Test.YtlnkdnmeikpckaaGreatMStd
import Derived.Test.YtlnkdnmeikpckaaGreatMSte
import Derived.Test.YtlnkdnmeikpckaaGreatMStf
import Derived.Test.YtlnkdnmeikpckaaGreatMStg
import Derived.Test.YtlnkdnmeikpckaaGreatMSth
import Derived.Test.YtlnkdnmeikpckaaGreatMSti
namespace Go.Proofs.YtlnkdnmeikpckaaGreat
open Go.RowKit
set_option maxRecDepth 100000
def addF (P : PSt) (p : PFn) : Int × Int × PSt := if badT p.v p.np = true ∨ badT p.u p.nr = true then (0, 2, P) else ((P.nf : Int), 0, P.pushF p)
def addT (P : PSt) (el mn mx : Int) (bd : Bool) (x : V3) : Int × Int × PSt := if newTE el mn mx bd x = 0 then ((P.nt : Int), 0, P.pushT ⟨el, mx, bd, mn.toNat, fun _ => x⟩) else (0, newTE el mn mx bd x, P)
def addM (P : PSt) (mn mx : Int) (bd : Bool) : Int × Int × PSt := if newME mn mx bd = 0 then ((P.nm : Int), 0, P.pushM ⟨mn.toNat, mx, bd⟩) else (0, newME mn mx bd, P)
def addG (P : PSt) (gt : Int) (gm : Bool) (x : V3) : Int × Int × PSt := if globB gt x = true then ((P.ng : Int), 0, P.pushG ⟨gt, gm, x⟩) else (0, 2, P)
def addE (P : PSt) (t : Int) (m : Nat) (v : Nat → V3) : Int × Int × PSt := if isRefB t = false ∨ badB v m t = true then (0, 2, P) else ((P.ne : Int), 0, P.pushE ⟨t, m, v⟩)
def addD (P : PSt) : Int × Int × PSt := ((P.nd : Int), 0, P.pushD)
def addI (P : PSt) (p : PIn) : Int × Int × PSt := ((P.ni : Int), 0, P.pushI p)
def InA.pin (a : InA) : PIn := ⟨fun j => ⟨a.ln j, a.lf j⟩, a.en, a.ek, a.eo⟩
/-- A store's side is done. -/
def SDone (B : Nat) (lab : Nat → Nat) (w w' : World) (sb : Nat) (P : PSt) : Prop := ∃ lab' v', SAt B lab' w' sb P v' ∧ Mv lab lab' (fun b => lab b % 2 = 1) w w'
def RDone (B : Nat) (lab : Nat → Nat) (w w' : World) (rb : Nat) (P : PSt) : Prop := ∃ lab' v', RAt B lab' w' rb P v' ∧ Mv lab lab' (fun b => lab b ≠ 0 ∧ lab b % 2 = 0) w w'
theorem SAt.done0 {B sb : Nat} {lab : Nat → Nat} {w w' : World} {P : PSt} {v : SV} (h : SAt B lab w sb P v) (hk : Kept S0 w w') : SDone B lab w w' sb P := ⟨lab, v, h.kept0 hk, hk.of0 _, fun _ _ => rfl⟩
theorem RAt.done0 {B sb : Nat} {lab : Nat → Nat} {w w' : World} {P : PSt} {v : SV} (h : RAt B lab w sb P v) (hk : Kept S0 w w') : RDone B lab w w' sb P := ⟨lab, v, h.kept0 hk, hk.of0 _, fun _ _ => rfl⟩
theorem lab_new {w w' : World} {lab' : Nat → Nat} {e e2 s s2 n n2 B b0 k : Nat} {Q Q2 : Value → Prop} {y xl : Value} {F F2 : Nat → Value} (ho : Own w' b0 e s Q y n F) (hb0 : w.heap.size ≤ b0) (hx : Own w' B e2 s2 Q2 xl n2 F2) (hne : e ≠ e2) (l3 : ∀ b, w.heap.size ≤ b → xl.ownBlock ≠ some b → lab' b = k) : ∀ g, y.ownBlock = some g → lab' g = k :=
  fun g hg => l3 g (Nat.le_trans hb0 (ho.lt g hg).1) (fun e => (ho.ofT hg).ne (hx.ofT e) hne rfl)
theorem lab_obj {w w' : World} {lab' : Nat → Nat} {e2 s2 n2 B g t k : Nat} {Q2 : Value → Prop} {xl : Value} {F2 : Nat → Value} {cs : Array Value} (hb : Blk w' g t cs) (hg : w.heap.size ≤ g) (hx : Own w' B e2 s2 Q2 xl n2 F2) (hne : t ≠ e2) (l3 : ∀ b, w.heap.size ≤ b → xl.ownBlock ≠ some b → lab' b = k) : lab' g = k :=
  l3 g hg (fun e => hb.ofT.ne (hx.ofT e) hne rfl)
theorem after_old {n : Nat} {F V : Nat → Value} {j : Nat} (h : j < n) : after n F V j = F j := if_pos h
theorem after_new {n : Nat} {F V : Nat → Value} (j : Nat) : after n F V (n + j) = V j := by unfold after; rw [if_neg (by omega)]; congr 1; omega
theorem after_new0 {n : Nat} {F V : Nat → Value} : after n F V n = V 0 := by unfold after; rw [if_neg (by omega)]; congr 1; omega
section
variable {w0 w : World} {sb : Nat} {lab : Nat → Nat} {P : PSt} {v : SV}
theorem s_addF (A C : Option Addr) (np c nr d : Nat) (x u : Nat → UInt8) (h' : Bool) (s : ByteArray) (i b : Int) (hA : TSl w0 A np c x) (hC : TSl w0 C nr d u) (h : SAt w0.heap.size lab w sb P v) (hb : Bas w0 lab w) (hP : P.Le 200) :
    Calls Tryz.prog 59 #[.pointer (some ⟨sb, 0, none⟩), .agg #[.slice A np c, .slice C nr d, .bool h', .string s, .int .i64 i, .int .i64 b]] w fun e w' => e = .returned (.tuple #[.int .i64 (addF P ⟨np, x, nr, u, h', s, i, b⟩).1, .int .i64 (addF P ⟨np, x, nr, u, h', s, i, b⟩).2.1]) ∧ SDone w0.heap.size lab w w' sb (addF P ⟨np, x, nr, u, h', s, i, b⟩).2.2 := by
  have hn : P.nf < 65536 := by have := hP.f; omega
  have hA1 := hA.kept hb.k
  have hC1 := hC.kept hb.k
  by_cases hbad : badT x np = true ∨ badT u nr = true
  · refine (addfunc_bad A C np c nr d x u h' s i b h.ls.obj h.ls.f hn hA1 hC1 hbad).mono ?_
    rintro e w' ⟨rfl, hk⟩
    rw [addF, if_pos hbad]
    exact ⟨rfl, h.done0 hk⟩
  · have h1 : badT x np = false := by cases e : badT x np with
      | true => exact absurd (.inl e) hbad
      | false => rfl
    have h2 : badT u nr = false := by cases e : badT u nr with
      | true => exact absurd (.inr e) hbad
      | false => rfl
    refine (addfunc_ok A C np c nr d x u h' s i b h.ls.obj h.ls.f hn hb.size hA1 hC1 h1 h2).mono ?_
    rintro e w' ⟨rfl, ⟨fl', yA, yc, zA, zc, hbk, ho, hy, hz, hl⟩, hk⟩
    rw [addF, if_neg hbad]
    refine ⟨rfl, h.pushF (fun _ => 0) ⟨np, x, nr, u, h', s, i, b⟩ hbk ho (fun j hj => after_old hj) hk hl (fun lab' l1 l3 => ?_)⟩
    exact ⟨⟨yA, yc, zA, zc, after_new0, after_new 1, after_new 2, after_new 3, after_new 4, after_new 5, lstl_own hy (by have := hA.sz; show np * 1 ≤ _; omega) (lab_new hy (Nat.le_refl _) ho (by decide) l3), lstl_own hz (by have := hC.sz; show nr * 1 ≤ _; omega) (lab_new hz (Nat.le_refl _) ho (by decide) l3)⟩⟩
theorem s_addT (el mn mx : Int) (bd : Bool) (x : V3) (h1 : 0 ≤ mn) (h2 : mn ≤ 4294967295) (h3 : 0 ≤ mx) (h4 : mx ≤ 4294967295) (hx : VOk x) (h : SAt w0.heap.size lab w sb P v) (hb : Bas w0 lab w) (hP : P.Le 200) :
    Calls Tryz.prog 61 #[.pointer (some ⟨sb, 0, none⟩), .agg #[.int .u8 el, .int .u32 mn, .int .u32 mx, .bool bd], .agg #[.int .u8 x.t, .int .u64 x.lo, .int .u64 x.hi]] w fun e w' => e = .returned (.tuple #[.int .i64 (addT P el mn mx bd x).1, .int .i64 (addT P el mn mx bd x).2.1]) ∧ SDone w0.heap.size lab w w' sb (addT P el mn mx bd x).2.2 := by
  have hn : P.nt < 256 := by have := hP.t; omega
  by_cases hE : newTE el mn mx bd x = 0
  · rw [addT, if_pos hE]
    obtain ⟨k, rfl⟩ : ∃ k : Nat, mn = (k : Int) := ⟨mn.toNat, by omega⟩
    obtain ⟨q1, q2, q3⟩ := tnew_ok _ _ _ _ _ hE
    refine (addtable_new el mx k bd x h.ls.obj h.ls.t hn hb.size h3 h4 hE).mono ?_
    rintro e w' ⟨rfl, ⟨ob, ov, lv', hbk, ho, ht, hl⟩, hk⟩
    refine ⟨rfl, h.pushT (fun _ => 4 * P.nt + 3) ⟨el, mx, bd, k, fun _ => x⟩ hbk ho (fun j hj => after_old (by omega)) hk hl (fun lab' l1 l3 => ?_)⟩
    exact ⟨⟨ob, k, ov, after_new0, ⟨ht.obj, ht.own.mono hb.size, Nat.le_trans hb.size ht.lo⟩, lab_obj ht.obj ht.lo ho (by decide) l3, lab_new ht.own (Nat.le_refl _) ho (by decide) l3⟩, by show k ≤ 16384; omega, T20.isRef_of q1, h3, h4, fun _ _ => hx⟩
  · rw [addT, if_neg hE]
    refine (addtable_err el mn mx bd x h.ls.obj h.ls.t hn h1 h2 h3 h4 hE).mono ?_
    rintro e w' ⟨rfl, hk⟩
    exact ⟨rfl, h.done0 hk⟩
theorem s_addM (mn mx : Int) (bd : Bool) (h1 : 0 ≤ mn) (h2 : mn ≤ 4294967295) (h3 : 0 ≤ mx) (h4 : mx ≤ 4294967295) (h : SAt w0.heap.size lab w sb P v) (hb : Bas w0 lab w) (hP : P.Le 200) :
    Calls Tryz.prog 63 #[.pointer (some ⟨sb, 0, none⟩), .agg #[.int .u32 mn, .int .u32 mx, .bool bd]] w fun e w' => e = .returned (.tuple #[.int .i64 (addM P mn mx bd).1, .int .i64 (addM P mn mx bd).2.1]) ∧ SDone w0.heap.size lab w w' sb (addM P mn mx bd).2.2 := by
  have hn : P.nm < 256 := by have := hP.m; omega
  by_cases hE : newME mn mx bd = 0
  · rw [addM, if_pos hE]
    obtain ⟨k, rfl⟩ : ∃ k : Nat, mn = (k : Int) := ⟨mn.toNat, by omega⟩
    have q3 : (k : Int) ≤ 16 := by
      unfold newME at hE
      split at hE
      · split at hE
        · assumption
        · cases hE
      · cases hE
    refine (addmem_new mx k bd h.ls.obj h.ls.m hn hb.size h3 h4 hE).mono ?_
    rintro e w' ⟨rfl, ⟨pb, bb, lv', hbk, ho, ht, hp1, hp2, hl⟩, hk⟩
    refine ⟨rfl, h.pushM (fun _ => 4 * P.nm + 5) ⟨k, mx, bd⟩ hbk ho (fun j hj => after_old (by omega)) hk hl (fun lab' l1 l3 => ?_)⟩
    exact ⟨⟨pb, bb, k, _, after_new0, ht, lab_obj ht.obj hp1 ho (by decide) l3, l3 bb hp2 (fun e => by
      obtain ⟨cs, hc, _⟩ := ht.row
      exact (ho.ofT e).ne ⟨cs, hc⟩ (by decide) rfl), Nat.le_trans hb.size hp1, Nat.le_trans hb.size hp2⟩, by show k ≤ 16; omega, h3, h4⟩
  · rw [addM, if_neg hE]
    refine (addmem_err mn mx bd h.ls.obj h.ls.m hn h1 h2 h3 h4 hE).mono ?_
    rintro e w' ⟨rfl, hk⟩
    exact ⟨rfl, h.done0 hk⟩
theorem s_addG (gt : Int) (gm : Bool) (x : V3) (hx : VOk x) (h : SAt w0.heap.size lab w sb P v) (hb : Bas w0 lab w) (hP : P.Le 200) :
    Calls Tryz.prog 65 #[.pointer (some ⟨sb, 0, none⟩), .agg #[.int .u8 gt, .bool gm], .agg #[.int .u8 x.t, .int .u64 x.lo, .int .u64 x.hi]] w fun e w' => e = .returned (.tuple #[.int .i64 (addG P gt gm x).1, .int .i64 (addG P gt gm x).2.1]) ∧ SDone w0.heap.size lab w w' sb (addG P gt gm x).2.2 := by
  have hn : P.ng < 65536 := by have := hP.g; omega
  by_cases hE : globB gt x = true
  · rw [addG, if_pos hE]
    refine (addglob_new gt gm x hx h.ls.obj h.ls.g hn hb.size hE).mono ?_
    rintro e w' ⟨rfl, ⟨lv', hbk, ho, hl⟩, hk⟩
    refine ⟨rfl, h.pushG (fun _ => 0) ⟨gt, gm, x⟩ hbk ho (fun j hj => after_old hj) hk hl (fun lab' l1 l3 => ?_)⟩
    exact ⟨after_new0, after_new 1, after_new 2, after_new 3, after_new 4, hx⟩
  · rw [addG, if_neg hE]
    refine (addglob_err gt gm x hx h.ls.obj h.ls.g hn (by simpa using hE)).mono ?_
    rintro e w' ⟨rfl, hk⟩
    exact ⟨rfl, h.done0 hk⟩
theorem s_addE (t : Int) (A : Option Addr) (m c : Nat) (x : Nat → V3) (hA : LSl w0 3 24 A m c (vcell x)) (hx : ∀ j, j < m → VOk (x j)) (h : SAt w0.heap.size lab w sb P v) (hb : Bas w0 lab w) (hP : P.Le 200) :
    Calls Tryz.prog 67 #[.pointer (some ⟨sb, 0, none⟩), .int .u8 t, .slice A m c] w fun e w' => e = .returned (.tuple #[.int .i64 (addE P t m x).1, .int .i64 (addE P t m x).2.1]) ∧ SDone w0.heap.size lab w w' sb (addE P t m x).2.2 := by
  have hn : P.ne < 65536 := by have := hP.e; omega
  have hA1 := hA.kept hb.k
  by_cases hbad : isRefB t = false ∨ badB x m t = true
  · refine (addelem_bad t A m c x h.ls.obj h.ls.e hn hA1 hbad).mono ?_
    rintro e w' ⟨rfl, hk⟩
    rw [addE, if_pos hbad]
    exact ⟨rfl, h.done0 hk⟩
  · have h1 : isRefB t = true := by cases e : isRefB t with
      | false => exact absurd (.inl e) hbad
      | true => rfl
    have h2 : badB x m t = false := by cases e : badB x m t with
      | true => exact absurd (.inr e) hbad
      | false => rfl
    refine (addelem_ok t A m c x h.ls.obj h.ls.e hn hb.size hA1 h1 h2).mono ?_
    rintro e w' ⟨rfl, ⟨lv', yA, yc, hbk, ho, hy, hl⟩, hk⟩
    rw [addE, if_neg hbad]
    refine ⟨rfl, h.pushE (fun _ => 0) ⟨t, m, x⟩ hbk ho (fun j hj => after_old hj) hk hl (fun lab' l1 l3 => ?_)⟩
    exact ⟨⟨yA, yc, after_new0, after_new 1, lstl_own hy hA.sm (lab_new hy (Nat.le_refl _) ho (by decide) l3)⟩, hx⟩
theorem s_addD (A : Option Addr) (m c : Nat) (x : Nat → UInt8) (hA : LSl w0 1 1 A m c (byteV x)) (h : SAt w0.heap.size lab w sb P v) (hb : Bas w0 lab w) (hP : P.Le 200) :
    Calls Tryz.prog 69 #[.pointer (some ⟨sb, 0, none⟩), .slice A m c] w fun e w' => e = .returned (.tuple #[.int .i64 (addD P).1, .int .i64 (addD P).2.1]) ∧ SDone w0.heap.size lab w w' sb (addD P).2.2 := by
  have hn : P.nd < 65536 := by have := hP.d; omega
  refine (adddata_ok A m c x h.ls.obj h.ls.d hn hb.size (hA.kept hb.k)).mono ?_
  rintro e w' ⟨rfl, ⟨lv', yA, yc, hbk, ho, hy, hl⟩, hk⟩
  refine ⟨rfl, h.pushD (fun _ => 0) hbk ho (fun j hj => after_old (by omega)) hk hl (fun lab' l1 l3 => ?_)⟩
  exact ⟨⟨yA, m, yc, x, after_new0, lstl_own hy hA.sm (lab_new hy (Nat.le_refl _) ho (by decide) l3)⟩⟩
theorem s_addI (a : InA) (hA : InOk w0 a) (h : SAt w0.heap.size lab w sb P v) (hb : Bas w0 lab w) (hP : P.Le 200) :
    Calls Tryz.prog 71 #[.pointer (some ⟨sb, 0, none⟩), .agg a.cells] w fun e w' => e = .returned (.tuple #[.int .i64 (addI P a.pin).1, .int .i64 (addI P a.pin).2.1]) ∧ SDone w0.heap.size lab w w' sb (addI P a.pin).2.2 := by
  have hn : P.ni < 65536 := by have := hP.i; omega
  refine (addinst_any a h.ls.obj h.ls.i hn hb.size (hA.kept hb.k)).mono ?_
  rintro e w' ⟨rfl, ⟨ib, A1, n1, d1, A2, n2, d2, lv', hbk, ho, hi, hl⟩, hk⟩
  refine ⟨rfl, h.pushI (fun _ => 0) a.pin hbk ho (fun j hj => after_old (by omega)) hk hl (fun lab' l1 l3 => ?_)⟩
  obtain ⟨y0, y1, y2, y3, y4, y5, ye, c0, c1, c2, c3, c4, c5, ce, hib, o0, o1, o2, o3, o4, o5, oe⟩ := hi.ex
  refine ⟨ib, after_new0, lab_obj hib hi.lo ho (by decide) l3, fun j hj => ?_, ⟨ye, ce, _, hib.cell 8, lstl_own oe hA.ex.sm (lab_new oe (Nat.le_refl _) ho (by decide) l3), hA.exf⟩, ?_, ?_⟩
  · match j, hj with
    | 0, _ => exact ⟨y0, c0, hib.cell 1, lstl_own o0 (hA.l 0 (by omega)).sm (lab_new o0 (Nat.le_refl _) ho (by decide) l3)⟩
    | 1, _ => exact ⟨y1, c1, hib.cell 2, lstl_own o1 (hA.l 1 (by omega)).sm (lab_new o1 (Nat.le_refl _) ho (by decide) l3)⟩
    | 2, _ => exact ⟨y2, c2, hib.cell 3, lstl_own o2 (hA.l 2 (by omega)).sm (lab_new o2 (Nat.le_refl _) ho (by decide) l3)⟩
    | 3, _ => exact ⟨y3, c3, hib.cell 4, lstl_own o3 (hA.l 3 (by omega)).sm (lab_new o3 (Nat.le_refl _) ho (by decide) l3)⟩
    | 4, _ => exact ⟨y4, c4, hib.cell 5, lstl_own o4 (hA.l 4 (by omega)).sm (lab_new o4 (Nat.le_refl _) ho (by decide) l3)⟩
    | 5, _ => exact ⟨y5, c5, hib.cell 6, lstl_own o5 (hA.l 5 (by omega)).sm (lab_new o5 (Nat.le_refl _) ho (by decide) l3)⟩
  · exact ⟨A1, n1, d1, hib.cell 0⟩
  · exact ⟨A2, n2, d2, hib.cell 7⟩
theorem r_addF (A C : Option Addr) (np c nr d : Nat) (x u : Nat → UInt8) (h' : Bool) (s : ByteArray) (i b : Int) (hA : TSl w0 A np c x) (hC : TSl w0 C nr d u) (h : RAt w0.heap.size lab w sb P v) (hb : Bas w0 lab w) (hP : P.Le 200) :
    Calls Tryz.prog 60 #[.pointer (some ⟨sb, 0, none⟩), .agg #[.slice A np c, .slice C nr d, .bool h', .string s, .int .i64 i, .int .i64 b]] w fun e w' => e = .returned (.tuple #[.int .i64 (addF P ⟨np, x, nr, u, h', s, i, b⟩).1, .int .i64 (addF P ⟨np, x, nr, u, h', s, i, b⟩).2.1]) ∧ RDone w0.heap.size lab w w' sb (addF P ⟨np, x, nr, u, h', s, i, b⟩).2.2 := by
  have hn : P.nf < 65536 := by have := hP.f; omega
  have hA1 := hA.kept hb.k
  have hC1 := hC.kept hb.k
  by_cases hbad : badT x np = true ∨ badT u nr = true
  · refine (raddf_err A C np c nr d x u h' s i b h.ls.obj h.ls.f hn hA1 hC1 hbad).mono ?_
    rintro e w' ⟨rfl, hk⟩
    rw [addF, if_pos hbad]
    exact ⟨rfl, h.done0 hk⟩
  · have h1 : badT x np = false := by cases e : badT x np with
      | true => exact absurd (.inl e) hbad
      | false => rfl
    have h2 : badT u nr = false := by cases e : badT u nr with
      | true => exact absurd (.inr e) hbad
      | false => rfl
    refine (raddf_ok A C np c nr d x u h' s i b h.ls.obj h.ls.f hn hb.size hA1 hC1 h1 h2).mono ?_
    rintro e w' ⟨rfl, lv', hbk, ho, hk, hl⟩
    rw [addF, if_neg hbad]
    refine ⟨rfl, h.pushF (fun _ => 0) ⟨np, x, nr, u, h', s, i, b⟩ hbk ho (fun j hj => after_old hj) hk hl (fun lab' l1 l3 => ?_)⟩
    have hb' : Bas w0 lab' w' := ⟨hb.k.trans_ hk (fun g hg => .inr (by
      rcases hg with e | e
      · rw [e]; exact h.ls.lo
      · exact (h.ls.f.lt g e).1)), fun g hg => (l1 g (Nat.lt_of_lt_of_le hg hb.size)).trans (hb.l g hg)⟩
    exact ⟨⟨A, c, C, d, after_new0, after_new 1, after_new 2, after_new 3, after_new 4, after_new 5, hA.lab hb', hC.lab hb'⟩⟩
theorem r_addT (el mn mx : Int) (bd : Bool) (x : V3) (h1 : 0 ≤ mn) (h2 : mn ≤ 4294967295) (h3 : 0 ≤ mx) (h4 : mx ≤ 4294967295) (hx : VOk x) (h : RAt w0.heap.size lab w sb P v) (hb : Bas w0 lab w) (hP : P.Le 200) :
    Calls Tryz.prog 62 #[.pointer (some ⟨sb, 0, none⟩), .agg #[.int .u8 el, .int .u32 mn, .int .u32 mx, .bool bd], .agg #[.int .u8 x.t, .int .u64 x.lo, .int .u64 x.hi]] w fun e w' => e = .returned (.tuple #[.int .i64 (addT P el mn mx bd x).1, .int .i64 (addT P el mn mx bd x).2.1]) ∧ RDone w0.heap.size lab w w' sb (addT P el mn mx bd x).2.2 := by
  have hn : P.nt < 256 := by have := hP.t; omega
  by_cases hE : newTE el mn mx bd x = 0
  · rw [addT, if_pos hE]
    obtain ⟨k, rfl⟩ : ∃ k : Nat, mn = (k : Int) := ⟨mn.toNat, by omega⟩
    obtain ⟨q1, q2, q3⟩ := tnew_ok _ _ _ _ _ hE
    refine (raddt_ok el mx k bd x h.ls.obj h.ls.t hn hb.size h3 h4 hE).mono ?_
    rintro e w' ⟨rfl, ob, ov, lv', hbk, ho, ht, hk, hl⟩
    refine ⟨rfl, h.pushT (fun _ => 4 * P.nt + 4) ⟨el, mx, bd, k, fun _ => x⟩ hbk ho (fun j hj => after_old (by omega)) hk hl (fun lab' l1 l3 => ?_)⟩
    exact ⟨⟨ob, k, ov, after_new0, ⟨ht.obj, ht.own.mono hb.size, Nat.le_trans hb.size ht.lo⟩, lab_obj ht.obj ht.lo ho (by decide) l3, lab_new ht.own (Nat.le_refl _) ho (by decide) l3⟩, by show k ≤ 16384; omega, T20.isRef_of q1, h3, h4, fun _ _ => hx⟩
  · rw [addT, if_neg hE]
    refine (raddt_err el mn mx bd x h.ls.obj h.ls.t hn h1 h2 h3 h4 hE).mono ?_
    rintro e w' ⟨rfl, hk⟩
    exact ⟨rfl, h.done0 hk⟩
theorem r_addM (mn mx : Int) (bd : Bool) (h1 : 0 ≤ mn) (h2 : mn ≤ 4294967295) (h3 : 0 ≤ mx) (h4 : mx ≤ 4294967295) (h : RAt w0.heap.size lab w sb P v) (hb : Bas w0 lab w) (hP : P.Le 200) :
    Calls Tryz.prog 64 #[.pointer (some ⟨sb, 0, none⟩), .agg #[.int .u32 mn, .int .u32 mx, .bool bd]] w fun e w' => e = .returned (.tuple #[.int .i64 (addM P mn mx bd).1, .int .i64 (addM P mn mx bd).2.1]) ∧ RDone w0.heap.size lab w w' sb (addM P mn mx bd).2.2 := by
  have hn : P.nm < 256 := by have := hP.m; omega
  by_cases hE : newME mn mx bd = 0
  · rw [addM, if_pos hE]
    obtain ⟨k, rfl⟩ : ∃ k : Nat, mn = (k : Int) := ⟨mn.toNat, by omega⟩
    have q3 : (k : Int) ≤ 16 := by
      unfold newME at hE
      split at hE
      · split at hE
        · assumption
        · cases hE
      · cases hE
    refine (raddm_ok mx k bd h.ls.obj h.ls.m hn hb.size h3 h4 hE).mono ?_
    rintro e w' ⟨rfl, ob, ov, lv', hbk, ho, ht, hk, hl⟩
    refine ⟨rfl, h.pushM (fun _ => 4 * P.nm + 6) ⟨k, mx, bd⟩ hbk ho (fun j hj => after_old (by omega)) hk hl (fun lab' l1 l3 => ?_)⟩
    exact ⟨⟨ob, k, ov, _, after_new0, ⟨ht.obj, ht.own.mono hb.size, Nat.le_trans hb.size ht.lo⟩, lab_obj ht.obj ht.lo ho (by decide) l3, lab_new ht.own (Nat.le_refl _) ho (by decide) l3⟩, by show k ≤ 16; omega, h3, h4⟩
  · rw [addM, if_neg hE]
    refine (raddm_err mn mx bd h.ls.obj h.ls.m hn h1 h2 h3 h4 hE).mono ?_
    rintro e w' ⟨rfl, hk⟩
    exact ⟨rfl, h.done0 hk⟩
theorem r_addG (gt : Int) (gm : Bool) (x : V3) (hx : VOk x) (h : RAt w0.heap.size lab w sb P v) (hb : Bas w0 lab w) (hP : P.Le 200) :
    Calls Tryz.prog 66 #[.pointer (some ⟨sb, 0, none⟩), .agg #[.int .u8 gt, .bool gm], .agg #[.int .u8 x.t, .int .u64 x.lo, .int .u64 x.hi]] w fun e w' => e = .returned (.tuple #[.int .i64 (addG P gt gm x).1, .int .i64 (addG P gt gm x).2.1]) ∧ RDone w0.heap.size lab w w' sb (addG P gt gm x).2.2 := by
  have hn : P.ng < 65536 := by have := hP.g; omega
  by_cases hE : globB gt x = true
  · rw [addG, if_pos hE]
    refine (raddg_ok gt gm x hx h.ls.obj h.ls.g hn hb.size hE).mono ?_
    rintro e w' ⟨rfl, lv', hbk, ho, hk, hl⟩
    refine ⟨rfl, h.pushG (fun _ => 0) ⟨gt, gm, x⟩ hbk ho (fun j hj => after_old hj) hk hl (fun lab' l1 l3 => ?_)⟩
    exact ⟨after_new0, after_new 1, after_new 2, after_new 3, after_new 4, hx⟩
  · rw [addG, if_neg hE]
    refine (raddg_err gt gm x hx h.ls.obj h.ls.g hn (by simpa using hE)).mono ?_
    rintro e w' ⟨rfl, hk⟩
    exact ⟨rfl, h.done0 hk⟩
theorem r_addE (t : Int) (A : Option Addr) (m c : Nat) (x : Nat → V3) (hA : LSl w0 3 24 A m c (vcell x)) (hx : ∀ j, j < m → VOk (x j)) (h : RAt w0.heap.size lab w sb P v) (hb : Bas w0 lab w) (hP : P.Le 200) :
    Calls Tryz.prog 68 #[.pointer (some ⟨sb, 0, none⟩), .int .u8 t, .slice A m c] w fun e w' => e = .returned (.tuple #[.int .i64 (addE P t m x).1, .int .i64 (addE P t m x).2.1]) ∧ RDone w0.heap.size lab w w' sb (addE P t m x).2.2 := by
  have hn : P.ne < 65536 := by have := hP.e; omega
  have hA1 := hA.kept hb.k
  by_cases hbad : isRefB t = false ∨ badB x m t = true
  · refine (radde_err t A m c x h.ls.obj h.ls.e hn hA1 hbad).mono ?_
    rintro e w' ⟨rfl, hk⟩
    rw [addE, if_pos hbad]
    exact ⟨rfl, h.done0 hk⟩
  · have h1 : isRefB t = true := by cases e : isRefB t with
      | false => exact absurd (.inl e) hbad
      | true => rfl
    have h2 : badB x m t = false := by cases e : badB x m t with
      | true => exact absurd (.inr e) hbad
      | false => rfl
    refine (radde_ok t A m c x h.ls.obj h.ls.e hn hb.size hA1 h1 h2).mono ?_
    rintro e w' ⟨rfl, yA, yc, lv', hbk, ho, hy, hk, hl⟩
    rw [addE, if_neg hbad]
    refine ⟨rfl, h.pushE (fun _ => 0) ⟨t, m, x⟩ hbk ho (fun j hj => after_old hj) hk hl (fun lab' l1 l3 => ?_)⟩
    exact ⟨⟨yA, yc, after_new0, after_new 1, lstl_own hy hA.sm (lab_new hy (Nat.le_refl _) ho (by decide) l3)⟩, hx⟩
theorem r_addD (A : Option Addr) (m c : Nat) (x : Nat → UInt8) (hA : LSl w0 1 1 A m c (byteV x)) (h : RAt w0.heap.size lab w sb P v) (hb : Bas w0 lab w) (hP : P.Le 200) :
    Calls Tryz.prog 70 #[.pointer (some ⟨sb, 0, none⟩), .slice A m c] w fun e w' => e = .returned (.tuple #[.int .i64 (addD P).1, .int .i64 (addD P).2.1]) ∧ RDone w0.heap.size lab w w' sb (addD P).2.2 := by
  have hn : P.nd < 65536 := by have := hP.d; omega
  refine (raddd_ok A m c x h.ls.obj h.ls.d hn hb.size (hA.kept hb.k)).mono ?_
  rintro e w' ⟨rfl, yA, yc, lv', hbk, ho, hy, hk, hl⟩
  refine ⟨rfl, h.pushD (fun _ => 0) hbk ho (fun j hj => after_old (by omega)) hk hl (fun lab' l1 l3 => ?_)⟩
  exact ⟨⟨yA, m, yc, x, by rw [Nat.mul_one]; exact after_new0, lstl_own hy hA.sm (lab_new hy (Nat.le_refl _) ho (by decide) l3)⟩⟩
end
end Go.Proofs.YtlnkdnmeikpckaaGreat
namespace Go.Proofs.YtlnkdnmeikpckaaGreat
open Go.RowKit
set_option maxRecDepth 100000
/-- An act that is handed in, but for its number. -/
structure ActP where
  a : Int
  n : Int
  pA : Option Addr
  pn : Nat
  pc : Nat
  pv : Nat → UInt8
  rA : Option Addr
  rn : Nat
  rc : Nat
  ru : Nat → UInt8
  h : Bool
  s : ByteArray
  i : Int
  b : Int
  el : Int
  tmn : Int
  tmx : Int
  tbd : Bool
  mn : Int
  mx : Int
  bd : Bool
  gt : Int
  gm : Bool
  x : V3
  lA : Option Addr
  ln : Nat
  lc : Nat
  lf : Nat → V3
  bA : Option Addr
  bn : Nat
  bc : Nat
  bf : Nat → UInt8
  I : InA
def ActP.fn (x : ActP) : PFn := ⟨x.pn, x.pv, x.rn, x.ru, x.h, x.s, x.i, x.b⟩
def ActP.cells (d : Int) (x : ActP) : Array Value := #[.int .i64 d, .int .i64 x.a, .int .u32 x.n, .slice x.pA x.pn x.pc, .slice x.rA x.rn x.rc, .bool x.h, .string x.s, .int .i64 x.i, .int .i64 x.b, .int .u8 x.el, .int .u32 x.tmn, .int .u32 x.tmx, .bool x.tbd, .int .u32 x.mn, .int .u32 x.mx, .bool x.bd, .int .u8 x.gt, .bool x.gm, .int .u8 x.x.t, .int .u64 x.x.lo, .int .u64 x.x.hi, .slice x.lA x.ln x.lc, .slice x.bA x.bn x.bc, .slice x.I.ta x.I.tn x.I.tc, .slice (x.I.la 0) (x.I.ln 0) (x.I.lc 0), .slice (x.I.la 1) (x.I.ln 1) (x.I.lc 1), .slice (x.I.la 2) (x.I.ln 2) (x.I.lc 2), .slice (x.I.la 3) (x.I.ln 3) (x.I.lc 3), .slice (x.I.la 4) (x.I.ln 4) (x.I.lc 4), .slice (x.I.la 5) (x.I.ln 5) (x.I.lc 5), .slice x.I.ca x.I.cn x.I.cc, .slice x.I.ea x.I.en x.I.ec]
structure ActOk (w : World) (x : ActP) : Prop where
  p : TSl w x.pA x.pn x.pc x.pv
  r : TSl w x.rA x.rn x.rc x.ru
  l : LSl w 3 24 x.lA x.ln x.lc (vcell x.lf)
  lok : ∀ j, j < x.ln → VOk (x.lf j)
  b : LSl w 1 1 x.bA x.bn x.bc (byteV x.bf)
  i : InOk w x.I
  n1 : 0 ≤ x.n
  n2 : x.n ≤ 4294967295
  t1 : 0 ≤ x.tmn
  t2 : x.tmn ≤ 4294967295
  t3 : 0 ≤ x.tmx
  t4 : x.tmx ≤ 4294967295
  m1 : 0 ≤ x.mn
  m2 : x.mn ≤ 4294967295
  m3 : 0 ≤ x.mx
  m4 : x.mx ≤ 4294967295
  v : VOk x.x
def clampN (mn : Int) : Int := if 2 < mn ∧ mn ≤ 16 then 2 else mn
def clampX (mn mx : Int) (bd : Bool) : Int := if 2 < mn ∧ mn ≤ 16 then (if bd then max mx 2 else 0) else mx
def addP (P : PSt) (d : Int) (x : ActP) : Int × Int × PSt :=
  if d = 0 then addF P x.fn else if d = 1 then addT P x.el x.tmn x.tmx x.tbd x.x else if d = 2 then addM P (clampN x.mn) (clampX x.mn x.mx x.bd) x.bd
  else if d = 3 then addG P x.gt x.gm x.x else if d = 4 then addE P x.x.t x.ln x.lf else if d = 5 then addD P else if d = 6 then addI P x.I.pin else (0, 0, P)
/-- New blocks are nobody's. -/
def lab0 (lab : Nat → Nat) (w : World) : Nat → Nat := fun b => if b < w.heap.size then lab b else 0
theorem lab0_mv {lab : Nat → Nat} {w w' : World} (hk : Kept S0 w w') (T : Nat → Prop) : Mv lab (lab0 lab w) T w w' := ⟨hk.of0 _, fun _ hb => if_pos hb⟩
theorem lab0_new {lab : Nat → Nat} {w : World} {b : Nat} (hb : w.heap.size ≤ b) : lab0 lab w b = 0 := if_neg (by omega)
theorem SAt.fresh {B sb : Nat} {lab : Nat → Nat} {w w' : World} {P : PSt} {v : SV} (h : SAt B lab w sb P v) (hk : Kept S0 w w') : SAt B (lab0 lab w) w' sb P v := h.move (lab0_mv hk S0) (fun _ _ x => x.elim)
theorem RAt.fresh {B sb : Nat} {lab : Nat → Nat} {w w' : World} {P : PSt} {v : SV} (h : RAt B lab w sb P v) (hk : Kept S0 w w') : RAt B (lab0 lab w) w' sb P v := h.move (lab0_mv hk S0) (fun _ _ x => x.elim)
theorem Bas.fresh {w0 w w' : World} {lab : Nat → Nat} (h : Bas w0 lab w) (hk : Kept S0 w w') : Bas w0 (lab0 lab w) w' := h.move (lab0_mv hk S0) (fun _ x => x.elim)
theorem Mv.trans_ {lab lab' lab'' : Nat → Nat} {S S' T : Nat → Prop} {w w' w'' : World} (h : Mv lab lab' S w w') (k : Mv lab' lab'' S' w' w'') (h1 : ∀ b, S b → T b) (h2 : ∀ b, b < w.heap.size → S' b → T b) : Mv lab lab'' T w w'' :=
  ⟨(h.k.mono h1).trans_ k.k (fun b hb => (Nat.lt_or_ge b w.heap.size).imp (fun x => h2 b x hb) id), fun b hb => (k.l b (Nat.lt_of_lt_of_le hb h.k.size)).trans (h.l b hb)⟩
/-- Both sides are done. -/
def BDone (B : Nat) (lab : Nat → Nat) (w w' : World) (sb rb : Nat) (P Q : PSt) : Prop := ∃ lab' v' u', SAt B lab' w' sb P v' ∧ RAt B lab' w' rb Q u' ∧ Mv lab lab' (fun b => lab b ≠ 0) w w'
theorem Mv.three {lab l1 l2 l3 : Nat → Nat} {w w1 w2 w3 : World} (h : Mv lab l1 S0 w w1) (k : Mv l1 l2 (fun b => l1 b % 2 = 1) w1 w2) (m : Mv l2 l3 (fun b => l2 b ≠ 0 ∧ l2 b % 2 = 0) w2 w3) : Mv lab l3 (fun b => lab b ≠ 0) w w3 := by
  have h1 : Mv lab l2 (fun b => lab b ≠ 0) w w2 := h.trans_ k (fun _ x => x.elim) (fun b hb x => by have := h.l b hb; rw [this] at x; omega)
  exact h1.trans_ m (fun _ x => x) (fun b hb x => by have := h1.l b hb; rw [this] at x; exact x.1)
section
variable {w0 w : World} {sb rb : Nat} {lab : Nat → Nat} {P Q : PSt} {v u : SV}
set_option maxRecDepth 100000 in
set_option maxHeartbeats 6400000 in
theorem add_0 (x : ActP) (hx : ActOk w0 x) (hs : SAt w0.heap.size lab w sb P v) (hr : RAt w0.heap.size lab w rb Q u) (hb : Bas w0 lab w) (hP : P.Le 200) (hQ : Q.Le 200) :
    Calls Tryz.prog 23 #[.pointer (some ⟨sb, 0, none⟩), .pointer (some ⟨rb, 0, none⟩), .agg (x.cells 0)] w fun e w' => e = .returned (.bool (decide ((addF P x.fn).1 = (addF Q x.fn).1) && decide ((addF P x.fn).2.1 = (addF Q x.fn).2.1))) ∧ BDone w0.heap.size lab w w' sb rb (addF P x.fn).2.2 (addF Q x.fn).2.2 := by
  have hka : Kept S0 w (w.alloc (.cells (x.cells 0) 79)) := (Kept.refl S0 w).alloc _
  have HBX := Lib.hid (Blk.new w 79 (x.cells 0))
  have HS := Lib.hid (hs.fresh hka)
  have HR := Lib.hid (hr.fresh hka)
  have HB := Lib.hid (hb.fresh hka)
  have HM := Lib.hid (lab0_mv (lab := lab) hka S0)
  have HX := Lib.hid hx
  have HL := Lib.hid (lab0_new (lab := lab) (Nat.le_refl w.heap.size))
  clear hx hs hr hb hka
  have c0 : (w.alloc (.cells (x.cells 0) 79)).cell? ⟨w.heap.size, 0, none⟩ = some (.int .i64 0) := HBX.out.cell 0
  have c3 : (w.alloc (.cells (x.cells 0) 79)).cell? ⟨w.heap.size, 3, none⟩ = some (.slice x.pA x.pn x.pc) := HBX.out.cell 3
  have c4 : (w.alloc (.cells (x.cells 0) 79)).cell? ⟨w.heap.size, 4, none⟩ = some (.slice x.rA x.rn x.rc) := HBX.out.cell 4
  have c5 : (w.alloc (.cells (x.cells 0) 79)).cell? ⟨w.heap.size, 5, none⟩ = some (.bool x.h) := HBX.out.cell 5
  have c6 : (w.alloc (.cells (x.cells 0) 79)).cell? ⟨w.heap.size, 6, none⟩ = some (.string x.s) := HBX.out.cell 6
  have c7 : (w.alloc (.cells (x.cells 0) 79)).cell? ⟨w.heap.size, 7, none⟩ = some (.int .i64 x.i) := HBX.out.cell 7
  have c8 : (w.alloc (.cells (x.cells 0) 79)).cell? ⟨w.heap.size, 8, none⟩ = some (.int .i64 x.b) := HBX.out.cell 8
  go_enter Tryz.func23, Tryz.ntmps23
  go_wp2_with fail
  generalize w.heap.size = bx at *
  generalize hlg : lab0 lab w = lg at *
  clear hlg
  generalize (w.alloc (.cells (x.cells 0) 79)) = w1 at *
  refine (s_addF x.pA x.rA x.pn x.pc x.rn x.rc x.pv x.ru x.h x.s x.i x.b HX.out.p HX.out.r HS.out HB.out hP).mono ?_
  rintro e w2 ⟨rfl, lab2, v2, hs2, m2⟩
  have hlx : lg bx = 0 := HL.out
  have HS2 := Lib.hid hs2
  have HR2 := Lib.hid (HR.out.move m2 (fun _ _ x => x))
  have HB2 := Lib.hid (HB.out.move m2 (fun b x => by have x' : lg b % 2 = 1 := x; omega))
  have HM2 := Lib.hid m2
  have HX2 := Lib.hid (m2.k.blk HBX.out (fun e => by have e' : lg bx % 2 = 1 := e; omega))
  clear hs2 m2 c0 c3 c4 c5 c6 c7 c8
  have c3 : w2.cell? ⟨bx, 3, none⟩ = some (.slice x.pA x.pn x.pc) := HX2.out.cell 3
  have c4 : w2.cell? ⟨bx, 4, none⟩ = some (.slice x.rA x.rn x.rc) := HX2.out.cell 4
  have c5 : w2.cell? ⟨bx, 5, none⟩ = some (.bool x.h) := HX2.out.cell 5
  have c6 : w2.cell? ⟨bx, 6, none⟩ = some (.string x.s) := HX2.out.cell 6
  have c7 : w2.cell? ⟨bx, 7, none⟩ = some (.int .i64 x.i) := HX2.out.cell 7
  have c8 : w2.cell? ⟨bx, 8, none⟩ = some (.int .i64 x.b) := HX2.out.cell 8
  go_wp2_with fail
  refine (r_addF x.pA x.rA x.pn x.pc x.rn x.rc x.pv x.ru x.h x.s x.i x.b HX.out.p HX.out.r HR2.out HB2.out hQ).mono ?_
  rintro e w3 ⟨rfl, lab3, u3, hr3, m3⟩
  have HF := Lib.hid (show BDone w0.heap.size lab w w3 sb rb (addF P x.fn).2.2 (addF Q x.fn).2.2 from ⟨lab3, v2, u3, HS2.out.move m3 (fun _ _ x => x), hr3, Mv.three HM.out HM2.out m3⟩)
  clear hr3 m3 hlx c3 c4 c5 c6 c7 c8
  by_cases e1 : (addF P x.fn).1 = (addF Q x.fn).1
  · go_wp2_with fail
    go_ret
    exact ⟨by rw [decide_eq_true e1]; rfl, HF.out⟩
  · go_wp2_with fail
    go_ret
    exact ⟨by rw [decide_eq_false e1]; rfl, HF.out⟩
set_option maxRecDepth 100000 in
set_option maxHeartbeats 6400000 in
theorem add_1 (x : ActP) (hx : ActOk w0 x) (hs : SAt w0.heap.size lab w sb P v) (hr : RAt w0.heap.size lab w rb Q u) (hb : Bas w0 lab w) (hP : P.Le 200) (hQ : Q.Le 200) :
    Calls Tryz.prog 23 #[.pointer (some ⟨sb, 0, none⟩), .pointer (some ⟨rb, 0, none⟩), .agg (x.cells 1)] w fun e w' => e = .returned (.bool (decide ((addT P x.el x.tmn x.tmx x.tbd x.x).1 = (addT Q x.el x.tmn x.tmx x.tbd x.x).1) && decide ((addT P x.el x.tmn x.tmx x.tbd x.x).2.1 = (addT Q x.el x.tmn x.tmx x.tbd x.x).2.1))) ∧ BDone w0.heap.size lab w w' sb rb (addT P x.el x.tmn x.tmx x.tbd x.x).2.2 (addT Q x.el x.tmn x.tmx x.tbd x.x).2.2 := by
  have hka : Kept S0 w (w.alloc (.cells (x.cells 1) 79)) := (Kept.refl S0 w).alloc _
  have HBX := Lib.hid (Blk.new w 79 (x.cells 1))
  have HS := Lib.hid (hs.fresh hka)
  have HR := Lib.hid (hr.fresh hka)
  have HB := Lib.hid (hb.fresh hka)
  have HM := Lib.hid (lab0_mv (lab := lab) hka S0)
  have HX := Lib.hid hx
  have HL := Lib.hid (lab0_new (lab := lab) (Nat.le_refl w.heap.size))
  clear hx hs hr hb hka
  have c0 : (w.alloc (.cells (x.cells 1) 79)).cell? ⟨w.heap.size, 0, none⟩ = some (.int .i64 1) := HBX.out.cell 0
  have c9 : (w.alloc (.cells (x.cells 1) 79)).cell? ⟨w.heap.size, 9, none⟩ = some (.int .u8 x.el) := HBX.out.cell 9
  have c10 : (w.alloc (.cells (x.cells 1) 79)).cell? ⟨w.heap.size, 10, none⟩ = some (.int .u32 x.tmn) := HBX.out.cell 10
  have c11 : (w.alloc (.cells (x.cells 1) 79)).cell? ⟨w.heap.size, 11, none⟩ = some (.int .u32 x.tmx) := HBX.out.cell 11
  have c12 : (w.alloc (.cells (x.cells 1) 79)).cell? ⟨w.heap.size, 12, none⟩ = some (.bool x.tbd) := HBX.out.cell 12
  have c18 : (w.alloc (.cells (x.cells 1) 79)).cell? ⟨w.heap.size, 18, none⟩ = some (.int .u8 x.x.t) := HBX.out.cell 18
  have c19 : (w.alloc (.cells (x.cells 1) 79)).cell? ⟨w.heap.size, 19, none⟩ = some (.int .u64 x.x.lo) := HBX.out.cell 19
  have c20 : (w.alloc (.cells (x.cells 1) 79)).cell? ⟨w.heap.size, 20, none⟩ = some (.int .u64 x.x.hi) := HBX.out.cell 20
  go_enter Tryz.func23, Tryz.ntmps23
  go_wp2_with fail
  generalize w.heap.size = bx at *
  generalize hlg : lab0 lab w = lg at *
  clear hlg
  generalize (w.alloc (.cells (x.cells 1) 79)) = w1 at *
  refine (s_addT x.el x.tmn x.tmx x.tbd x.x HX.out.t1 HX.out.t2 HX.out.t3 HX.out.t4 HX.out.v HS.out HB.out hP).mono ?_
  rintro e w2 ⟨rfl, lab2, v2, hs2, m2⟩
  have hlx : lg bx = 0 := HL.out
  have HS2 := Lib.hid hs2
  have HR2 := Lib.hid (HR.out.move m2 (fun _ _ x => x))
  have HB2 := Lib.hid (HB.out.move m2 (fun b x => by have x' : lg b % 2 = 1 := x; omega))
  have HM2 := Lib.hid m2
  have HX2 := Lib.hid (m2.k.blk HBX.out (fun e => by have e' : lg bx % 2 = 1 := e; omega))
  clear hs2 m2 c0 c9 c10 c11 c12 c18 c19 c20
  have c9 : w2.cell? ⟨bx, 9, none⟩ = some (.int .u8 x.el) := HX2.out.cell 9
  have c10 : w2.cell? ⟨bx, 10, none⟩ = some (.int .u32 x.tmn) := HX2.out.cell 10
  have c11 : w2.cell? ⟨bx, 11, none⟩ = some (.int .u32 x.tmx) := HX2.out.cell 11
  have c12 : w2.cell? ⟨bx, 12, none⟩ = some (.bool x.tbd) := HX2.out.cell 12
  have c18 : w2.cell? ⟨bx, 18, none⟩ = some (.int .u8 x.x.t) := HX2.out.cell 18
  have c19 : w2.cell? ⟨bx, 19, none⟩ = some (.int .u64 x.x.lo) := HX2.out.cell 19
  have c20 : w2.cell? ⟨bx, 20, none⟩ = some (.int .u64 x.x.hi) := HX2.out.cell 20
  go_wp2_with fail
  refine (r_addT x.el x.tmn x.tmx x.tbd x.x HX.out.t1 HX.out.t2 HX.out.t3 HX.out.t4 HX.out.v HR2.out HB2.out hQ).mono ?_
  rintro e w3 ⟨rfl, lab3, u3, hr3, m3⟩
  have HF := Lib.hid (show BDone w0.heap.size lab w w3 sb rb (addT P x.el x.tmn x.tmx x.tbd x.x).2.2 (addT Q x.el x.tmn x.tmx x.tbd x.x).2.2 from ⟨lab3, v2, u3, HS2.out.move m3 (fun _ _ x => x), hr3, Mv.three HM.out HM2.out m3⟩)
  clear hr3 m3 hlx c9 c10 c11 c12 c18 c19 c20
  by_cases e1 : (addT P x.el x.tmn x.tmx x.tbd x.x).1 = (addT Q x.el x.tmn x.tmx x.tbd x.x).1
  · go_wp2_with fail
    go_ret
    exact ⟨by rw [decide_eq_true e1]; rfl, HF.out⟩
  · go_wp2_with fail
    go_ret
    exact ⟨by rw [decide_eq_false e1]; rfl, HF.out⟩
set_option maxRecDepth 100000 in
set_option maxHeartbeats 6400000 in
theorem add_3 (x : ActP) (hx : ActOk w0 x) (hs : SAt w0.heap.size lab w sb P v) (hr : RAt w0.heap.size lab w rb Q u) (hb : Bas w0 lab w) (hP : P.Le 200) (hQ : Q.Le 200) :
    Calls Tryz.prog 23 #[.pointer (some ⟨sb, 0, none⟩), .pointer (some ⟨rb, 0, none⟩), .agg (x.cells 3)] w fun e w' => e = .returned (.bool (decide ((addG P x.gt x.gm x.x).1 = (addG Q x.gt x.gm x.x).1) && decide ((addG P x.gt x.gm x.x).2.1 = (addG Q x.gt x.gm x.x).2.1))) ∧ BDone w0.heap.size lab w w' sb rb (addG P x.gt x.gm x.x).2.2 (addG Q x.gt x.gm x.x).2.2 := by
  have hka : Kept S0 w (w.alloc (.cells (x.cells 3) 79)) := (Kept.refl S0 w).alloc _
  have HBX := Lib.hid (Blk.new w 79 (x.cells 3))
  have HS := Lib.hid (hs.fresh hka)
  have HR := Lib.hid (hr.fresh hka)
  have HB := Lib.hid (hb.fresh hka)
  have HM := Lib.hid (lab0_mv (lab := lab) hka S0)
  have HX := Lib.hid hx
  have HL := Lib.hid (lab0_new (lab := lab) (Nat.le_refl w.heap.size))
  clear hx hs hr hb hka
  have c0 : (w.alloc (.cells (x.cells 3) 79)).cell? ⟨w.heap.size, 0, none⟩ = some (.int .i64 3) := HBX.out.cell 0
  have c16 : (w.alloc (.cells (x.cells 3) 79)).cell? ⟨w.heap.size, 16, none⟩ = some (.int .u8 x.gt) := HBX.out.cell 16
  have c17 : (w.alloc (.cells (x.cells 3) 79)).cell? ⟨w.heap.size, 17, none⟩ = some (.bool x.gm) := HBX.out.cell 17
  have c18 : (w.alloc (.cells (x.cells 3) 79)).cell? ⟨w.heap.size, 18, none⟩ = some (.int .u8 x.x.t) := HBX.out.cell 18
  have c19 : (w.alloc (.cells (x.cells 3) 79)).cell? ⟨w.heap.size, 19, none⟩ = some (.int .u64 x.x.lo) := HBX.out.cell 19
  have c20 : (w.alloc (.cells (x.cells 3) 79)).cell? ⟨w.heap.size, 20, none⟩ = some (.int .u64 x.x.hi) := HBX.out.cell 20
  go_enter Tryz.func23, Tryz.ntmps23
  go_wp2_with fail
  generalize w.heap.size = bx at *
  generalize hlg : lab0 lab w = lg at *
  clear hlg
  generalize (w.alloc (.cells (x.cells 3) 79)) = w1 at *
  refine (s_addG x.gt x.gm x.x HX.out.v HS.out HB.out hP).mono ?_
  rintro e w2 ⟨rfl, lab2, v2, hs2, m2⟩
  have hlx : lg bx = 0 := HL.out
  have HS2 := Lib.hid hs2
  have HR2 := Lib.hid (HR.out.move m2 (fun _ _ x => x))
  have HB2 := Lib.hid (HB.out.move m2 (fun b x => by have x' : lg b % 2 = 1 := x; omega))
  have HM2 := Lib.hid m2
  have HX2 := Lib.hid (m2.k.blk HBX.out (fun e => by have e' : lg bx % 2 = 1 := e; omega))
  clear hs2 m2 c0 c16 c17 c18 c19 c20
  have c16 : w2.cell? ⟨bx, 16, none⟩ = some (.int .u8 x.gt) := HX2.out.cell 16
  have c17 : w2.cell? ⟨bx, 17, none⟩ = some (.bool x.gm) := HX2.out.cell 17
  have c18 : w2.cell? ⟨bx, 18, none⟩ = some (.int .u8 x.x.t) := HX2.out.cell 18
  have c19 : w2.cell? ⟨bx, 19, none⟩ = some (.int .u64 x.x.lo) := HX2.out.cell 19
  have c20 : w2.cell? ⟨bx, 20, none⟩ = some (.int .u64 x.x.hi) := HX2.out.cell 20
  go_wp2_with fail
  refine (r_addG x.gt x.gm x.x HX.out.v HR2.out HB2.out hQ).mono ?_
  rintro e w3 ⟨rfl, lab3, u3, hr3, m3⟩
  have HF := Lib.hid (show BDone w0.heap.size lab w w3 sb rb (addG P x.gt x.gm x.x).2.2 (addG Q x.gt x.gm x.x).2.2 from ⟨lab3, v2, u3, HS2.out.move m3 (fun _ _ x => x), hr3, Mv.three HM.out HM2.out m3⟩)
  clear hr3 m3 hlx c16 c17 c18 c19 c20
  by_cases e1 : (addG P x.gt x.gm x.x).1 = (addG Q x.gt x.gm x.x).1
  · go_wp2_with fail
    go_ret
    exact ⟨by rw [decide_eq_true e1]; rfl, HF.out⟩
  · go_wp2_with fail
    go_ret
    exact ⟨by rw [decide_eq_false e1]; rfl, HF.out⟩
set_option maxRecDepth 100000 in
set_option maxHeartbeats 6400000 in
theorem add_4 (x : ActP) (hx : ActOk w0 x) (hs : SAt w0.heap.size lab w sb P v) (hr : RAt w0.heap.size lab w rb Q u) (hb : Bas w0 lab w) (hP : P.Le 200) (hQ : Q.Le 200) :
    Calls Tryz.prog 23 #[.pointer (some ⟨sb, 0, none⟩), .pointer (some ⟨rb, 0, none⟩), .agg (x.cells 4)] w fun e w' => e = .returned (.bool (decide ((addE P x.x.t x.ln x.lf).1 = (addE Q x.x.t x.ln x.lf).1) && decide ((addE P x.x.t x.ln x.lf).2.1 = (addE Q x.x.t x.ln x.lf).2.1))) ∧ BDone w0.heap.size lab w w' sb rb (addE P x.x.t x.ln x.lf).2.2 (addE Q x.x.t x.ln x.lf).2.2 := by
  have hka : Kept S0 w (w.alloc (.cells (x.cells 4) 79)) := (Kept.refl S0 w).alloc _
  have HBX := Lib.hid (Blk.new w 79 (x.cells 4))
  have HS := Lib.hid (hs.fresh hka)
  have HR := Lib.hid (hr.fresh hka)
  have HB := Lib.hid (hb.fresh hka)
  have HM := Lib.hid (lab0_mv (lab := lab) hka S0)
  have HX := Lib.hid hx
  have HL := Lib.hid (lab0_new (lab := lab) (Nat.le_refl w.heap.size))
  clear hx hs hr hb hka
  have c0 : (w.alloc (.cells (x.cells 4) 79)).cell? ⟨w.heap.size, 0, none⟩ = some (.int .i64 4) := HBX.out.cell 0
  have c18 : (w.alloc (.cells (x.cells 4) 79)).cell? ⟨w.heap.size, 18, none⟩ = some (.int .u8 x.x.t) := HBX.out.cell 18
  have c21 : (w.alloc (.cells (x.cells 4) 79)).cell? ⟨w.heap.size, 21, none⟩ = some (.slice x.lA x.ln x.lc) := HBX.out.cell 21
  go_enter Tryz.func23, Tryz.ntmps23
  go_wp2_with fail
  generalize w.heap.size = bx at *
  generalize hlg : lab0 lab w = lg at *
  clear hlg
  generalize (w.alloc (.cells (x.cells 4) 79)) = w1 at *
  refine (s_addE x.x.t x.lA x.ln x.lc x.lf HX.out.l HX.out.lok HS.out HB.out hP).mono ?_
  rintro e w2 ⟨rfl, lab2, v2, hs2, m2⟩
  have hlx : lg bx = 0 := HL.out
  have HS2 := Lib.hid hs2
  have HR2 := Lib.hid (HR.out.move m2 (fun _ _ x => x))
  have HB2 := Lib.hid (HB.out.move m2 (fun b x => by have x' : lg b % 2 = 1 := x; omega))
  have HM2 := Lib.hid m2
  have HX2 := Lib.hid (m2.k.blk HBX.out (fun e => by have e' : lg bx % 2 = 1 := e; omega))
  clear hs2 m2 c0 c18 c21
  have c18 : w2.cell? ⟨bx, 18, none⟩ = some (.int .u8 x.x.t) := HX2.out.cell 18
  have c21 : w2.cell? ⟨bx, 21, none⟩ = some (.slice x.lA x.ln x.lc) := HX2.out.cell 21
  go_wp2_with fail
  refine (r_addE x.x.t x.lA x.ln x.lc x.lf HX.out.l HX.out.lok HR2.out HB2.out hQ).mono ?_
  rintro e w3 ⟨rfl, lab3, u3, hr3, m3⟩
  have HF := Lib.hid (show BDone w0.heap.size lab w w3 sb rb (addE P x.x.t x.ln x.lf).2.2 (addE Q x.x.t x.ln x.lf).2.2 from ⟨lab3, v2, u3, HS2.out.move m3 (fun _ _ x => x), hr3, Mv.three HM.out HM2.out m3⟩)
  clear hr3 m3 hlx c18 c21
  by_cases e1 : (addE P x.x.t x.ln x.lf).1 = (addE Q x.x.t x.ln x.lf).1
  · go_wp2_with fail
    go_ret
    exact ⟨by rw [decide_eq_true e1]; rfl, HF.out⟩
  · go_wp2_with fail
    go_ret
    exact ⟨by rw [decide_eq_false e1]; rfl, HF.out⟩
set_option maxRecDepth 100000 in
set_option maxHeartbeats 6400000 in
theorem add_5 (x : ActP) (hx : ActOk w0 x) (hs : SAt w0.heap.size lab w sb P v) (hr : RAt w0.heap.size lab w rb Q u) (hb : Bas w0 lab w) (hP : P.Le 200) (hQ : Q.Le 200) :
    Calls Tryz.prog 23 #[.pointer (some ⟨sb, 0, none⟩), .pointer (some ⟨rb, 0, none⟩), .agg (x.cells 5)] w fun e w' => e = .returned (.bool (decide ((addD P).1 = (addD Q).1) && decide ((addD P).2.1 = (addD Q).2.1))) ∧ BDone w0.heap.size lab w w' sb rb (addD P).2.2 (addD Q).2.2 := by
  have hka : Kept S0 w (w.alloc (.cells (x.cells 5) 79)) := (Kept.refl S0 w).alloc _
  have HBX := Lib.hid (Blk.new w 79 (x.cells 5))
  have HS := Lib.hid (hs.fresh hka)
  have HR := Lib.hid (hr.fresh hka)
  have HB := Lib.hid (hb.fresh hka)
  have HM := Lib.hid (lab0_mv (lab := lab) hka S0)
  have HX := Lib.hid hx
  have HL := Lib.hid (lab0_new (lab := lab) (Nat.le_refl w.heap.size))
  clear hx hs hr hb hka
  have c0 : (w.alloc (.cells (x.cells 5) 79)).cell? ⟨w.heap.size, 0, none⟩ = some (.int .i64 5) := HBX.out.cell 0
  have c22 : (w.alloc (.cells (x.cells 5) 79)).cell? ⟨w.heap.size, 22, none⟩ = some (.slice x.bA x.bn x.bc) := HBX.out.cell 22
  go_enter Tryz.func23, Tryz.ntmps23
  go_wp2_with fail
  generalize w.heap.size = bx at *
  generalize hlg : lab0 lab w = lg at *
  clear hlg
  generalize (w.alloc (.cells (x.cells 5) 79)) = w1 at *
  refine (s_addD x.bA x.bn x.bc x.bf HX.out.b HS.out HB.out hP).mono ?_
  rintro e w2 ⟨rfl, lab2, v2, hs2, m2⟩
  have hlx : lg bx = 0 := HL.out
  have HS2 := Lib.hid hs2
  have HR2 := Lib.hid (HR.out.move m2 (fun _ _ x => x))
  have HB2 := Lib.hid (HB.out.move m2 (fun b x => by have x' : lg b % 2 = 1 := x; omega))
  have HM2 := Lib.hid m2
  have HX2 := Lib.hid (m2.k.blk HBX.out (fun e => by have e' : lg bx % 2 = 1 := e; omega))
  clear hs2 m2 c0 c22
  have c22 : w2.cell? ⟨bx, 22, none⟩ = some (.slice x.bA x.bn x.bc) := HX2.out.cell 22
  go_wp2_with fail
  refine (r_addD x.bA x.bn x.bc x.bf HX.out.b HR2.out HB2.out hQ).mono ?_
  rintro e w3 ⟨rfl, lab3, u3, hr3, m3⟩
  have HF := Lib.hid (show BDone w0.heap.size lab w w3 sb rb (addD P).2.2 (addD Q).2.2 from ⟨lab3, v2, u3, HS2.out.move m3 (fun _ _ x => x), hr3, Mv.three HM.out HM2.out m3⟩)
  clear hr3 m3 hlx c22
  by_cases e1 : (addD P).1 = (addD Q).1
  · go_wp2_with fail
    go_ret
    exact ⟨by rw [decide_eq_true e1]; rfl, HF.out⟩
  · go_wp2_with fail
    go_ret
    exact ⟨by rw [decide_eq_false e1]; rfl, HF.out⟩
end
end Go.Proofs.YtlnkdnmeikpckaaGreat
namespace Go.Proofs.YtlnkdnmeikpckaaGreat
open Go.RowKit
set_option maxRecDepth 100000
section
variable {w0 w : World} {sb rb : Nat} {lab : Nat → Nat} {P Q : PSt} {v u : SV}
set_option maxRecDepth 100000 in
set_option maxHeartbeats 40000000 in
theorem add_2 (x : ActP) (hx : ActOk w0 x) (hs : SAt w0.heap.size lab w sb P v) (hr : RAt w0.heap.size lab w rb Q u) (hb : Bas w0 lab w) (hP : P.Le 200) (hQ : Q.Le 200) :
    Calls Tryz.prog 23 #[.pointer (some ⟨sb, 0, none⟩), .pointer (some ⟨rb, 0, none⟩), .agg (x.cells 2)] w fun e w' => e = .returned (.bool (decide ((addM P (clampN x.mn) (clampX x.mn x.mx x.bd) x.bd).1 = (addM Q (clampN x.mn) (clampX x.mn x.mx x.bd) x.bd).1) && decide ((addM P (clampN x.mn) (clampX x.mn x.mx x.bd) x.bd).2.1 = (addM Q (clampN x.mn) (clampX x.mn x.mx x.bd) x.bd).2.1))) ∧ BDone w0.heap.size lab w w' sb rb (addM P (clampN x.mn) (clampX x.mn x.mx x.bd) x.bd).2.2 (addM Q (clampN x.mn) (clampX x.mn x.mx x.bd) x.bd).2.2 := by
  have hka : Kept S0 w (w.alloc (.cells (x.cells 2) 79)) := (Kept.refl S0 w).alloc _
  have HBX := Lib.hid (Blk.new w 79 (x.cells 2))
  have HS := Lib.hid (hs.fresh hka)
  have HR := Lib.hid (hr.fresh hka)
  have HB := Lib.hid (hb.fresh hka)
  have HM := Lib.hid (lab0_mv (lab := lab) hka S0)
  have HX := Lib.hid hx
  have HL := Lib.hid (lab0_new (lab := lab) (Nat.le_refl w.heap.size))
  clear hx hs hr hb hka
  have c0 : (w.alloc (.cells (x.cells 2) 79)).cell? ⟨w.heap.size, 0, none⟩ = some (.int .i64 2) := HBX.out.cell 0
  have c13 : (w.alloc (.cells (x.cells 2) 79)).cell? ⟨w.heap.size, 13, none⟩ = some (.int .u32 x.mn) := HBX.out.cell 13
  have c14 : (w.alloc (.cells (x.cells 2) 79)).cell? ⟨w.heap.size, 14, none⟩ = some (.int .u32 x.mx) := HBX.out.cell 14
  have c15 : (w.alloc (.cells (x.cells 2) 79)).cell? ⟨w.heap.size, 15, none⟩ = some (.bool x.bd) := HBX.out.cell 15
  have hkl : Kept S0 (w.alloc (.cells (x.cells 2) 79)) ((w.alloc (.cells (x.cells 2) 79)).alloc (.cells #[.int .u32 x.mn, .int .u32 x.mx, .bool x.bd] 29)) := (Kept.refl S0 _).alloc _
  have hbl := Blk.new1 w (.cells (x.cells 2) 79) 29 #[.int .u32 x.mn, .int .u32 x.mx, .bool x.bd]
  have hlx : lab0 lab w (w.heap.size + 1) = 0 := lab0_new (by omega)
  have HBL := Lib.hid hbl
  have HKL := Lib.hid hkl
  have HLX := Lib.hid hlx
  have p0 := hbl.cell 0
  have p1 := hbl.cell 1
  have p2 := hbl.cell 2
  have z0 := hbl.frozen 0
  have z1 := hbl.frozen 1
  clear hbl hkl hlx
  generalize hbd : x.bd = bd at c15 HBL HKL p0 p1 p2 z0 z1 ⊢
  clear hbd
  rcases (show x.mn ≤ 2 ∨ 16 < x.mn ∨ (2 < x.mn ∧ x.mn ≤ 16) by omega) with hc | hc | ⟨hc, hd⟩
  · have HE1 := Lib.hid (show clampN x.mn = x.mn from if_neg (by omega))
    have HE2 := Lib.hid (show clampX x.mn x.mx bd = x.mx from if_neg (by omega))
    rw [HE1.out, HE2.out]
    go_enter Tryz.func23, Tryz.ntmps23
    go_wp2_with fail
    have hkl : Kept S0 (w.alloc (.cells (x.cells 2) 79)) ((w.alloc (.cells (x.cells 2) 79)).alloc (.cells #[.int .u32 x.mn, .int .u32 x.mx, .bool bd] 29)) := (Kept.refl S0 _).alloc _
    have HBL2 := Lib.hid (Blk.new1 w (.cells (x.cells 2) 79) 29 #[.int .u32 x.mn, .int .u32 x.mx, .bool bd])
    have HB1 := Lib.hid (HB.out.move (⟨hkl, fun _ _ => rfl⟩ : Mv (lab0 lab w) (lab0 lab w) S0 _ _) (fun _ e => e.elim))
    have HM1 := Lib.hid ((⟨HM.out.k.then0 hkl, HM.out.l⟩ : Mv lab (lab0 lab w) S0 w ((w.alloc (.cells (x.cells 2) 79)).alloc (.cells #[.int .u32 x.mn, .int .u32 x.mx, .bool bd] 29))))
    have HS1 := Lib.hid (HS.out.kept0 hkl)
    have HR1 := Lib.hid (HR.out.kept0 hkl)
    clear hkl c0 c13 c14 c15 p0 p1 p2 z0 z1 HS HR HB HM HKL HBX HBL
    generalize w.heap.size = bx at *
    generalize lab0 lab w = lg at *
    generalize ((w.alloc (.cells (x.cells 2) 79)).alloc (.cells #[.int .u32 x.mn, .int .u32 x.mx, .bool bd] 29)) = w1 at *
    refine (s_addM x.mn x.mx bd HX.out.m1 HX.out.m2 HX.out.m3 HX.out.m4 HS1.out HB1.out hP).mono ?_
    rintro e w2 ⟨rfl, lab2, v2, hs2, m2⟩
    have hlx : lg (bx + 1) = 0 := HLX.out
    have HS2 := Lib.hid hs2
    have HR2 := Lib.hid (HR1.out.move m2 (fun _ _ x => x))
    have HB2 := Lib.hid (HB1.out.move m2 (fun b x => by have x' : lg b % 2 = 1 := x; omega))
    have HM2 := Lib.hid m2
    have hx2 := m2.k.blk HBL2.out (fun e => by have e' : lg (bx + 1) % 2 = 1 := e; omega)
    have p0 := hx2.cell 0
    have p1 := hx2.cell 1
    have p2 := hx2.cell 2
    clear hs2 m2 hx2
    go_wp2_with fail
    refine (r_addM x.mn x.mx bd HX.out.m1 HX.out.m2 HX.out.m3 HX.out.m4 HR2.out HB2.out hQ).mono ?_
    rintro e w3 ⟨rfl, lab3, u3, hr3, m3⟩
    have HF := Lib.hid (show BDone w0.heap.size lab w w3 sb rb (addM P x.mn x.mx bd).2.2 (addM Q x.mn x.mx bd).2.2 from ⟨lab3, v2, u3, HS2.out.move m3 (fun _ _ x => x), hr3, Mv.three HM1.out HM2.out m3⟩)
    clear hr3 m3 hlx p0 p1 p2
    by_cases e1 : (addM P x.mn x.mx bd).1 = (addM Q x.mn x.mx bd).1
    · go_wp2_with fail
      go_ret
      exact ⟨by rw [decide_eq_true e1]; rfl, HF.out⟩
    · go_wp2_with fail
      go_ret
      exact ⟨by rw [decide_eq_false e1]; rfl, HF.out⟩
  · have HE1 := Lib.hid (show clampN x.mn = x.mn from if_neg (by omega))
    have HE2 := Lib.hid (show clampX x.mn x.mx bd = x.mx from if_neg (by omega))
    rw [HE1.out, HE2.out]
    go_enter Tryz.func23, Tryz.ntmps23
    go_wp2_with fail
    have hkl : Kept S0 (w.alloc (.cells (x.cells 2) 79)) ((w.alloc (.cells (x.cells 2) 79)).alloc (.cells #[.int .u32 x.mn, .int .u32 x.mx, .bool bd] 29)) := (Kept.refl S0 _).alloc _
    have HBL2 := Lib.hid (Blk.new1 w (.cells (x.cells 2) 79) 29 #[.int .u32 x.mn, .int .u32 x.mx, .bool bd])
    have HB1 := Lib.hid (HB.out.move (⟨hkl, fun _ _ => rfl⟩ : Mv (lab0 lab w) (lab0 lab w) S0 _ _) (fun _ e => e.elim))
    have HM1 := Lib.hid ((⟨HM.out.k.then0 hkl, HM.out.l⟩ : Mv lab (lab0 lab w) S0 w ((w.alloc (.cells (x.cells 2) 79)).alloc (.cells #[.int .u32 x.mn, .int .u32 x.mx, .bool bd] 29))))
    have HS1 := Lib.hid (HS.out.kept0 hkl)
    have HR1 := Lib.hid (HR.out.kept0 hkl)
    clear hkl c0 c13 c14 c15 p0 p1 p2 z0 z1 HS HR HB HM HKL HBX HBL
    generalize w.heap.size = bx at *
    generalize lab0 lab w = lg at *
    generalize ((w.alloc (.cells (x.cells 2) 79)).alloc (.cells #[.int .u32 x.mn, .int .u32 x.mx, .bool bd] 29)) = w1 at *
    refine (s_addM x.mn x.mx bd HX.out.m1 HX.out.m2 HX.out.m3 HX.out.m4 HS1.out HB1.out hP).mono ?_
    rintro e w2 ⟨rfl, lab2, v2, hs2, m2⟩
    have hlx : lg (bx + 1) = 0 := HLX.out
    have HS2 := Lib.hid hs2
    have HR2 := Lib.hid (HR1.out.move m2 (fun _ _ x => x))
    have HB2 := Lib.hid (HB1.out.move m2 (fun b x => by have x' : lg b % 2 = 1 := x; omega))
    have HM2 := Lib.hid m2
    have hx2 := m2.k.blk HBL2.out (fun e => by have e' : lg (bx + 1) % 2 = 1 := e; omega)
    have p0 := hx2.cell 0
    have p1 := hx2.cell 1
    have p2 := hx2.cell 2
    clear hs2 m2 hx2
    go_wp2_with fail
    refine (r_addM x.mn x.mx bd HX.out.m1 HX.out.m2 HX.out.m3 HX.out.m4 HR2.out HB2.out hQ).mono ?_
    rintro e w3 ⟨rfl, lab3, u3, hr3, m3⟩
    have HF := Lib.hid (show BDone w0.heap.size lab w w3 sb rb (addM P x.mn x.mx bd).2.2 (addM Q x.mn x.mx bd).2.2 from ⟨lab3, v2, u3, HS2.out.move m3 (fun _ _ x => x), hr3, Mv.three HM1.out HM2.out m3⟩)
    clear hr3 m3 hlx p0 p1 p2
    by_cases e1 : (addM P x.mn x.mx bd).1 = (addM Q x.mn x.mx bd).1
    · go_wp2_with fail
      go_ret
      exact ⟨by rw [decide_eq_true e1]; rfl, HF.out⟩
    · go_wp2_with fail
      go_ret
      exact ⟨by rw [decide_eq_false e1]; rfl, HF.out⟩
  · have HE1 := Lib.hid (show clampN x.mn = 2 from if_pos ⟨hc, hd⟩)
    cases bd with
    | true =>
      rcases (show x.mx < 2 ∨ 2 ≤ x.mx by omega) with hm | hm
      · have HE2 := Lib.hid (show clampX x.mn x.mx true = 2 from by rw [clampX, if_pos ⟨hc, hd⟩]; show max x.mx 2 = 2; omega)
        rw [HE1.out, HE2.out]
        go_enter Tryz.func23, Tryz.ntmps23
        go_wp2_with fail
        have hkl : Kept S0 (w.alloc (.cells (x.cells 2) 79)) ((w.alloc (.cells (x.cells 2) 79)).alloc (.cells #[.int .u32 2, .int .u32 2, .bool true] 29)) := (Kept.refl S0 _).alloc _
        have HBL2 := Lib.hid (Blk.new1 w (.cells (x.cells 2) 79) 29 #[.int .u32 2, .int .u32 2, .bool true])
        have HB1 := Lib.hid (HB.out.move (⟨hkl, fun _ _ => rfl⟩ : Mv (lab0 lab w) (lab0 lab w) S0 _ _) (fun _ e => e.elim))
        have HM1 := Lib.hid ((⟨HM.out.k.then0 hkl, HM.out.l⟩ : Mv lab (lab0 lab w) S0 w ((w.alloc (.cells (x.cells 2) 79)).alloc (.cells #[.int .u32 2, .int .u32 2, .bool true] 29))))
        have HS1 := Lib.hid (HS.out.kept0 hkl)
        have HR1 := Lib.hid (HR.out.kept0 hkl)
        clear hkl c0 c13 c14 c15 p0 p1 p2 z0 z1 HS HR HB HM HKL HBX HBL
        generalize w.heap.size = bx at *
        generalize lab0 lab w = lg at *
        generalize ((w.alloc (.cells (x.cells 2) 79)).alloc (.cells #[.int .u32 2, .int .u32 2, .bool true] 29)) = w1 at *
        refine (s_addM 2 2 true (by omega) (by omega) (by omega) (by omega) HS1.out HB1.out hP).mono ?_
        rintro e w2 ⟨rfl, lab2, v2, hs2, m2⟩
        have hlx : lg (bx + 1) = 0 := HLX.out
        have HS2 := Lib.hid hs2
        have HR2 := Lib.hid (HR1.out.move m2 (fun _ _ x => x))
        have HB2 := Lib.hid (HB1.out.move m2 (fun b x => by have x' : lg b % 2 = 1 := x; omega))
        have HM2 := Lib.hid m2
        have hx2 := m2.k.blk HBL2.out (fun e => by have e' : lg (bx + 1) % 2 = 1 := e; omega)
        have p0 := hx2.cell 0
        have p1 := hx2.cell 1
        have p2 := hx2.cell 2
        clear hs2 m2 hx2
        go_wp2_with fail
        refine (r_addM 2 2 true (by omega) (by omega) (by omega) (by omega) HR2.out HB2.out hQ).mono ?_
        rintro e w3 ⟨rfl, lab3, u3, hr3, m3⟩
        have HF := Lib.hid (show BDone w0.heap.size lab w w3 sb rb (addM P 2 2 true).2.2 (addM Q 2 2 true).2.2 from ⟨lab3, v2, u3, HS2.out.move m3 (fun _ _ x => x), hr3, Mv.three HM1.out HM2.out m3⟩)
        clear hr3 m3 hlx p0 p1 p2
        by_cases e1 : (addM P 2 2 true).1 = (addM Q 2 2 true).1
        · go_wp2_with fail
          go_ret
          exact ⟨by rw [decide_eq_true e1]; rfl, HF.out⟩
        · go_wp2_with fail
          go_ret
          exact ⟨by rw [decide_eq_false e1]; rfl, HF.out⟩
      · have HE2 := Lib.hid (show clampX x.mn x.mx true = x.mx from by rw [clampX, if_pos ⟨hc, hd⟩]; show max x.mx 2 = x.mx; omega)
        rw [HE1.out, HE2.out]
        go_enter Tryz.func23, Tryz.ntmps23
        go_wp2_with fail
        have hkl : Kept S0 (w.alloc (.cells (x.cells 2) 79)) ((w.alloc (.cells (x.cells 2) 79)).alloc (.cells #[.int .u32 2, .int .u32 x.mx, .bool true] 29)) := (Kept.refl S0 _).alloc _
        have HBL2 := Lib.hid (Blk.new1 w (.cells (x.cells 2) 79) 29 #[.int .u32 2, .int .u32 x.mx, .bool true])
        have HB1 := Lib.hid (HB.out.move (⟨hkl, fun _ _ => rfl⟩ : Mv (lab0 lab w) (lab0 lab w) S0 _ _) (fun _ e => e.elim))
        have HM1 := Lib.hid ((⟨HM.out.k.then0 hkl, HM.out.l⟩ : Mv lab (lab0 lab w) S0 w ((w.alloc (.cells (x.cells 2) 79)).alloc (.cells #[.int .u32 2, .int .u32 x.mx, .bool true] 29))))
        have HS1 := Lib.hid (HS.out.kept0 hkl)
        have HR1 := Lib.hid (HR.out.kept0 hkl)
        clear hkl c0 c13 c14 c15 p0 p1 p2 z0 z1 HS HR HB HM HKL HBX HBL
        generalize w.heap.size = bx at *
        generalize lab0 lab w = lg at *
        generalize ((w.alloc (.cells (x.cells 2) 79)).alloc (.cells #[.int .u32 2, .int .u32 x.mx, .bool true] 29)) = w1 at *
        refine (s_addM 2 x.mx true (by omega) (by omega) HX.out.m3 HX.out.m4 HS1.out HB1.out hP).mono ?_
        rintro e w2 ⟨rfl, lab2, v2, hs2, m2⟩
        have hlx : lg (bx + 1) = 0 := HLX.out
        have HS2 := Lib.hid hs2
        have HR2 := Lib.hid (HR1.out.move m2 (fun _ _ x => x))
        have HB2 := Lib.hid (HB1.out.move m2 (fun b x => by have x' : lg b % 2 = 1 := x; omega))
        have HM2 := Lib.hid m2
        have hx2 := m2.k.blk HBL2.out (fun e => by have e' : lg (bx + 1) % 2 = 1 := e; omega)
        have p0 := hx2.cell 0
        have p1 := hx2.cell 1
        have p2 := hx2.cell 2
        clear hs2 m2 hx2
        go_wp2_with fail
        refine (r_addM 2 x.mx true (by omega) (by omega) HX.out.m3 HX.out.m4 HR2.out HB2.out hQ).mono ?_
        rintro e w3 ⟨rfl, lab3, u3, hr3, m3⟩
        have HF := Lib.hid (show BDone w0.heap.size lab w w3 sb rb (addM P 2 x.mx true).2.2 (addM Q 2 x.mx true).2.2 from ⟨lab3, v2, u3, HS2.out.move m3 (fun _ _ x => x), hr3, Mv.three HM1.out HM2.out m3⟩)
        clear hr3 m3 hlx p0 p1 p2
        by_cases e1 : (addM P 2 x.mx true).1 = (addM Q 2 x.mx true).1
        · go_wp2_with fail
          go_ret
          exact ⟨by rw [decide_eq_true e1]; rfl, HF.out⟩
        · go_wp2_with fail
          go_ret
          exact ⟨by rw [decide_eq_false e1]; rfl, HF.out⟩
    | false =>
      have HE2 := Lib.hid (show clampX x.mn x.mx false = 0 from by rw [clampX, if_pos ⟨hc, hd⟩]; rfl)
      rcases (show x.mx < 2 ∨ 2 ≤ x.mx by omega) with hm | hm
      · rw [HE1.out, HE2.out]
        go_enter Tryz.func23, Tryz.ntmps23
        go_wp2_with fail
        have hkl : Kept S0 (w.alloc (.cells (x.cells 2) 79)) ((w.alloc (.cells (x.cells 2) 79)).alloc (.cells #[.int .u32 2, .int .u32 0, .bool false] 29)) := (Kept.refl S0 _).alloc _
        have HBL2 := Lib.hid (Blk.new1 w (.cells (x.cells 2) 79) 29 #[.int .u32 2, .int .u32 0, .bool false])
        have HB1 := Lib.hid (HB.out.move (⟨hkl, fun _ _ => rfl⟩ : Mv (lab0 lab w) (lab0 lab w) S0 _ _) (fun _ e => e.elim))
        have HM1 := Lib.hid ((⟨HM.out.k.then0 hkl, HM.out.l⟩ : Mv lab (lab0 lab w) S0 w ((w.alloc (.cells (x.cells 2) 79)).alloc (.cells #[.int .u32 2, .int .u32 0, .bool false] 29))))
        have HS1 := Lib.hid (HS.out.kept0 hkl)
        have HR1 := Lib.hid (HR.out.kept0 hkl)
        clear hkl c0 c13 c14 c15 p0 p1 p2 z0 z1 HS HR HB HM HKL HBX HBL
        generalize w.heap.size = bx at *
        generalize lab0 lab w = lg at *
        generalize ((w.alloc (.cells (x.cells 2) 79)).alloc (.cells #[.int .u32 2, .int .u32 0, .bool false] 29)) = w1 at *
        refine (s_addM 2 0 false (by omega) (by omega) (by omega) (by omega) HS1.out HB1.out hP).mono ?_
        rintro e w2 ⟨rfl, lab2, v2, hs2, m2⟩
        have hlx : lg (bx + 1) = 0 := HLX.out
        have HS2 := Lib.hid hs2
        have HR2 := Lib.hid (HR1.out.move m2 (fun _ _ x => x))
        have HB2 := Lib.hid (HB1.out.move m2 (fun b x => by have x' : lg b % 2 = 1 := x; omega))
        have HM2 := Lib.hid m2
        have hx2 := m2.k.blk HBL2.out (fun e => by have e' : lg (bx + 1) % 2 = 1 := e; omega)
        have p0 := hx2.cell 0
        have p1 := hx2.cell 1
        have p2 := hx2.cell 2
        clear hs2 m2 hx2
        go_wp2_with fail
        refine (r_addM 2 0 false (by omega) (by omega) (by omega) (by omega) HR2.out HB2.out hQ).mono ?_
        rintro e w3 ⟨rfl, lab3, u3, hr3, m3⟩
        have HF := Lib.hid (show BDone w0.heap.size lab w w3 sb rb (addM P 2 0 false).2.2 (addM Q 2 0 false).2.2 from ⟨lab3, v2, u3, HS2.out.move m3 (fun _ _ x => x), hr3, Mv.three HM1.out HM2.out m3⟩)
        clear hr3 m3 hlx p0 p1 p2
        by_cases e1 : (addM P 2 0 false).1 = (addM Q 2 0 false).1
        · go_wp2_with fail
          go_ret
          exact ⟨by rw [decide_eq_true e1]; rfl, HF.out⟩
        · go_wp2_with fail
          go_ret
          exact ⟨by rw [decide_eq_false e1]; rfl, HF.out⟩
      · rw [HE1.out, HE2.out]
        go_enter Tryz.func23, Tryz.ntmps23
        go_wp2_with fail
        have hkl : Kept S0 (w.alloc (.cells (x.cells 2) 79)) ((w.alloc (.cells (x.cells 2) 79)).alloc (.cells #[.int .u32 2, .int .u32 0, .bool false] 29)) := (Kept.refl S0 _).alloc _
        have HBL2 := Lib.hid (Blk.new1 w (.cells (x.cells 2) 79) 29 #[.int .u32 2, .int .u32 0, .bool false])
        have HB1 := Lib.hid (HB.out.move (⟨hkl, fun _ _ => rfl⟩ : Mv (lab0 lab w) (lab0 lab w) S0 _ _) (fun _ e => e.elim))
        have HM1 := Lib.hid ((⟨HM.out.k.then0 hkl, HM.out.l⟩ : Mv lab (lab0 lab w) S0 w ((w.alloc (.cells (x.cells 2) 79)).alloc (.cells #[.int .u32 2, .int .u32 0, .bool false] 29))))
        have HS1 := Lib.hid (HS.out.kept0 hkl)
        have HR1 := Lib.hid (HR.out.kept0 hkl)
        clear hkl c0 c13 c14 c15 p0 p1 p2 z0 z1 HS HR HB HM HKL HBX HBL
        generalize w.heap.size = bx at *
        generalize lab0 lab w = lg at *
        generalize ((w.alloc (.cells (x.cells 2) 79)).alloc (.cells #[.int .u32 2, .int .u32 0, .bool false] 29)) = w1 at *
        refine (s_addM 2 0 false (by omega) (by omega) (by omega) (by omega) HS1.out HB1.out hP).mono ?_
        rintro e w2 ⟨rfl, lab2, v2, hs2, m2⟩
        have hlx : lg (bx + 1) = 0 := HLX.out
        have HS2 := Lib.hid hs2
        have HR2 := Lib.hid (HR1.out.move m2 (fun _ _ x => x))
        have HB2 := Lib.hid (HB1.out.move m2 (fun b x => by have x' : lg b % 2 = 1 := x; omega))
        have HM2 := Lib.hid m2
        have hx2 := m2.k.blk HBL2.out (fun e => by have e' : lg (bx + 1) % 2 = 1 := e; omega)
        have p0 := hx2.cell 0
        have p1 := hx2.cell 1
        have p2 := hx2.cell 2
        clear hs2 m2 hx2
        go_wp2_with fail
        refine (r_addM 2 0 false (by omega) (by omega) (by omega) (by omega) HR2.out HB2.out hQ).mono ?_
        rintro e w3 ⟨rfl, lab3, u3, hr3, m3⟩
        have HF := Lib.hid (show BDone w0.heap.size lab w w3 sb rb (addM P 2 0 false).2.2 (addM Q 2 0 false).2.2 from ⟨lab3, v2, u3, HS2.out.move m3 (fun _ _ x => x), hr3, Mv.three HM1.out HM2.out m3⟩)
        clear hr3 m3 hlx p0 p1 p2
        by_cases e1 : (addM P 2 0 false).1 = (addM Q 2 0 false).1
        · go_wp2_with fail
          go_ret
          exact ⟨by rw [decide_eq_true e1]; rfl, HF.out⟩
        · go_wp2_with fail
          go_ret
          exact ⟨by rw [decide_eq_false e1]; rfl, HF.out⟩
end
end Go.Proofs.YtlnkdnmeikpckaaGreat
namespace Go.Proofs.YtlnkdnmeikpckaaGreat
open Go.RowKit
set_option maxRecDepth 100000
section
variable {w0 w : World} {sb rb : Nat} {lab : Nat → Nat} {P Q : PSt} {v u : SV}
set_option maxRecDepth 100000 in
set_option maxHeartbeats 40000000 in
theorem add_6 (x : ActP) (hx : ActOk w0 x) (hs : SAt w0.heap.size lab w sb P v) (hr : RAt w0.heap.size lab w rb Q u) (hb : Bas w0 lab w) (hP : P.Le 200) (hQ : Q.Le 200) :
    Calls Tryz.prog 23 #[.pointer (some ⟨sb, 0, none⟩), .pointer (some ⟨rb, 0, none⟩), .agg (x.cells 6)] w fun e w' => e = .returned (.bool (decide ((addI P x.I.pin).1 = (addI Q x.I.pin).1) && decide ((addI P x.I.pin).2.1 = (addI Q x.I.pin).2.1))) ∧ BDone w0.heap.size lab w w' sb rb (addI P x.I.pin).2.2 (addI Q x.I.pin).2.2 := by
  have hka : Kept S0 w (w.alloc (.cells (x.cells 6) 79)) := (Kept.refl S0 w).alloc _
  have HBX := Lib.hid (Blk.new w 79 (x.cells 6))
  have HS := Lib.hid (hs.fresh hka)
  have HR := Lib.hid (hr.fresh hka)
  have HB := Lib.hid (hb.fresh hka)
  have HM := Lib.hid (lab0_mv (lab := lab) hka S0)
  have HX := Lib.hid hx
  have HL := Lib.hid (lab0_new (lab := lab) (Nat.le_refl w.heap.size))
  clear hx hs hr hb hka
  have c0 : (w.alloc (.cells (x.cells 6) 79)).cell? ⟨w.heap.size, 0, none⟩ = some (.int .i64 6) := HBX.out.cell 0
  have c23 : (w.alloc (.cells (x.cells 6) 79)).cell? ⟨w.heap.size, 23, none⟩ = some (.slice x.I.ta x.I.tn x.I.tc) := HBX.out.cell 23
  have c24 : (w.alloc (.cells (x.cells 6) 79)).cell? ⟨w.heap.size, 24, none⟩ = some (.slice (x.I.la 0) (x.I.ln 0) (x.I.lc 0)) := HBX.out.cell 24
  have c25 : (w.alloc (.cells (x.cells 6) 79)).cell? ⟨w.heap.size, 25, none⟩ = some (.slice (x.I.la 1) (x.I.ln 1) (x.I.lc 1)) := HBX.out.cell 25
  have c26 : (w.alloc (.cells (x.cells 6) 79)).cell? ⟨w.heap.size, 26, none⟩ = some (.slice (x.I.la 2) (x.I.ln 2) (x.I.lc 2)) := HBX.out.cell 26
  have c27 : (w.alloc (.cells (x.cells 6) 79)).cell? ⟨w.heap.size, 27, none⟩ = some (.slice (x.I.la 3) (x.I.ln 3) (x.I.lc 3)) := HBX.out.cell 27
  have c28 : (w.alloc (.cells (x.cells 6) 79)).cell? ⟨w.heap.size, 28, none⟩ = some (.slice (x.I.la 4) (x.I.ln 4) (x.I.lc 4)) := HBX.out.cell 28
  have c29 : (w.alloc (.cells (x.cells 6) 79)).cell? ⟨w.heap.size, 29, none⟩ = some (.slice (x.I.la 5) (x.I.ln 5) (x.I.lc 5)) := HBX.out.cell 29
  have c30 : (w.alloc (.cells (x.cells 6) 79)).cell? ⟨w.heap.size, 30, none⟩ = some (.slice x.I.ca x.I.cn x.I.cc) := HBX.out.cell 30
  have c31 : (w.alloc (.cells (x.cells 6) 79)).cell? ⟨w.heap.size, 31, none⟩ = some (.slice x.I.ea x.I.en x.I.ec) := HBX.out.cell 31
  obtain ⟨z, hinfo, hzs⟩ := info_ex Tryz.infoRINST
  go_enter Tryz.func23, Tryz.ntmps23
  go_wp2_with fail
  generalize w.heap.size = bx at *
  generalize hlg : lab0 lab w = lg at *
  clear hlg
  generalize (w.alloc (.cells (x.cells 6) 79)) = w1 at *
  refine (s_addI x.I HX.out.i HS.out HB.out hP).mono ?_
  rintro e w2 ⟨rfl, lab2, v2, hs2, m2⟩
  have hlx : lg bx = 0 := HL.out
  have HS2 := Lib.hid hs2
  have HR2 := Lib.hid (HR.out.move m2 (fun _ _ x => x))
  have HB2 := Lib.hid (HB.out.move m2 (fun b x => by have x' : lg b % 2 = 1 := x; omega))
  have HM2 := Lib.hid m2
  have hlb2 : lab2 bx = 0 := (m2.l bx HBX.out.lt).trans hlx
  have HX2 := Lib.hid (m2.k.blk HBX.out (fun e => by have e' : lg bx % 2 = 1 := e; omega))
  clear hs2 m2 c0 c23 c24 c25 c26 c27 c28 c29 c30 c31
  obtain ⟨lA, lc, hlv, _, _, _⟩ := HR2.out.ls.i.out
  have r6 : w2.cell? ⟨rb, 6, none⟩ = some (.slice lA Q.ni lc) := by rw [← hlv]; exact HR2.out.ls.obj.cell 6
  have HLV := Lib.hid hlv
  have HLB := Lib.hid hlb2
  clear hlv hlb2 hlx
  go_wp2_with fail
  refine wp_region_R (fun w' => w'.cell? ⟨rb, 6, none⟩ = some (.slice lA Q.ni lc) ∧ w'.cell? ⟨bx, 23, none⟩ = some (.slice x.I.ta x.I.tn x.I.tc) ∧ w'.cell? ⟨bx, 24, none⟩ = some (.slice (x.I.la 0) (x.I.ln 0) (x.I.lc 0)) ∧ w'.cell? ⟨bx, 25, none⟩ = some (.slice (x.I.la 1) (x.I.ln 1) (x.I.lc 1)) ∧ w'.cell? ⟨bx, 26, none⟩ = some (.slice (x.I.la 2) (x.I.ln 2) (x.I.lc 2)) ∧ w'.cell? ⟨bx, 27, none⟩ = some (.slice (x.I.la 3) (x.I.ln 3) (x.I.lc 3)) ∧ w'.cell? ⟨bx, 28, none⟩ = some (.slice (x.I.la 4) (x.I.ln 4) (x.I.lc 4)) ∧ w'.cell? ⟨bx, 29, none⟩ = some (.slice (x.I.la 5) (x.I.ln 5) (x.I.lc 5)) ∧ w'.cell? ⟨bx, 30, none⟩ = some (.slice x.I.ca x.I.cn x.I.cc) ∧ w'.cell? ⟨bx, 31, none⟩ = some (.slice x.I.ea x.I.en x.I.ec)) [13] (by kernel_rfl) ?_
  have hkd : Kept S0 w2 w2.drew := (Kept.refl S0 w2).drew
  have hS : w2.drew.cell? ⟨rb, 6, none⟩ = some (.slice lA Q.ni lc) ∧ w2.drew.cell? ⟨bx, 23, none⟩ = some (.slice x.I.ta x.I.tn x.I.tc) ∧ w2.drew.cell? ⟨bx, 24, none⟩ = some (.slice (x.I.la 0) (x.I.ln 0) (x.I.lc 0)) ∧ w2.drew.cell? ⟨bx, 25, none⟩ = some (.slice (x.I.la 1) (x.I.ln 1) (x.I.lc 1)) ∧ w2.drew.cell? ⟨bx, 26, none⟩ = some (.slice (x.I.la 2) (x.I.ln 2) (x.I.lc 2)) ∧ w2.drew.cell? ⟨bx, 27, none⟩ = some (.slice (x.I.la 3) (x.I.ln 3) (x.I.lc 3)) ∧ w2.drew.cell? ⟨bx, 28, none⟩ = some (.slice (x.I.la 4) (x.I.ln 4) (x.I.lc 4)) ∧ w2.drew.cell? ⟨bx, 29, none⟩ = some (.slice (x.I.la 5) (x.I.ln 5) (x.I.lc 5)) ∧ w2.drew.cell? ⟨bx, 30, none⟩ = some (.slice x.I.ca x.I.cn x.I.cc) ∧ w2.drew.cell? ⟨bx, 31, none⟩ = some (.slice x.I.ea x.I.en x.I.ec) := ⟨keep0 hkd r6, keep0 hkd (HX2.out.cell 23), keep0 hkd (HX2.out.cell 24), keep0 hkd (HX2.out.cell 25), keep0 hkd (HX2.out.cell 26), keep0 hkd (HX2.out.cell 27), keep0 hkd (HX2.out.cell 28), keep0 hkd (HX2.out.cell 29), keep0 hkd (HX2.out.cell 30), keep0 hkd (HX2.out.cell 31)⟩
  have HKD := Lib.hid hkd
  clear hkd r6
  generalize w2.drew = w3 at *
  (first | (refine tkR 0 (v := ?_) rfl hS ⟨by rfl, ?_⟩ ?_; rotate_left; intro w h; (try dsimp only at h); first | (go_simp; done) | (go_simp; with_reducible rfl)) | refine skR 0 rfl (fun _ => hS) (by rfl) ?_); simp only [zq1, zq2, Act.put, zq4, zq5, zq6]
  (first | (refine tkR 1 (v := ?_) rfl hS ⟨by rfl, ?_⟩ ?_; rotate_left; intro w h; (try dsimp only at h); first | (go_simp; done) | (go_simp; with_reducible rfl)) | refine skR 1 rfl (fun _ => hS) (by rfl) ?_); simp only [zq1, zq2, zq3, Act.put, zq4, zq5, zq6]
  (first | (refine tkR 2 (v := ?_) rfl hS ⟨by rfl, ?_⟩ ?_; rotate_left; intro w h; (try dsimp only at h); first | (go_simp; done) | (go_simp; with_reducible rfl)) | refine skR 2 rfl (fun _ => hS) (by rfl) ?_); simp only [zq1, zq2, zq3, Act.put, zq4, zq5, zq6]
  (first | (refine tkR 3 (v := ?_) rfl hS ⟨by rfl, ?_⟩ ?_; rotate_left; intro w h; (try dsimp only at h); first | (go_simp; done) | (go_simp; with_reducible rfl)) | refine skR 3 rfl (fun _ => hS) (by rfl) ?_); simp only [zq1, zq2, zq3, Act.put, zq4, zq5, zq6]
  (first | (refine tkR 4 (v := ?_) rfl hS ⟨by rfl, ?_⟩ ?_; rotate_left; intro w h; (try dsimp only at h); first | (go_simp; done) | (go_simp; with_reducible rfl)) | refine skR 4 rfl (fun _ => hS) (by rfl) ?_); simp only [zq1, zq2, zq3, Act.put, zq4, zq5, zq6]
  (first | (refine tkR 5 (v := ?_) rfl hS ⟨by rfl, ?_⟩ ?_; rotate_left; intro w h; (try dsimp only at h); first | (go_simp; done) | (go_simp; with_reducible rfl)) | refine skR 5 rfl (fun _ => hS) (by rfl) ?_); simp only [zq1, zq2, zq3, Act.put, zq4, zq5, zq6]
  (first | (refine tkR 6 (v := ?_) rfl hS ⟨by rfl, ?_⟩ ?_; rotate_left; intro w h; (try dsimp only at h); first | (go_simp; done) | (go_simp; with_reducible rfl)) | refine skR 6 rfl (fun _ => hS) (by rfl) ?_); simp only [zq1, zq2, zq3, Act.put, zq4, zq5, zq6]
  (first | (refine tkR 7 (v := ?_) rfl hS ⟨by rfl, ?_⟩ ?_; rotate_left; intro w h; (try dsimp only at h); first | (go_simp; done) | (go_simp; with_reducible rfl)) | refine skR 7 rfl (fun _ => hS) (by rfl) ?_); simp only [zq1, zq2, zq3, Act.put, zq4, zq5, zq6]
  refine wpAnyR_one 8 rfl (by kernel_rfl) (fun K hK => ?_)
  go_simp
  have hal : Kept S0 w3 (w3.alloc (.cells #[.slice x.I.ta x.I.tn x.I.tc, .slice (x.I.la 0) (x.I.ln 0) (x.I.lc 0), .slice (x.I.la 1) (x.I.ln 1) (x.I.lc 1), .slice (x.I.la 2) (x.I.ln 2) (x.I.lc 2), .slice (x.I.la 3) (x.I.ln 3) (x.I.lc 3), .slice (x.I.la 4) (x.I.ln 4) (x.I.lc 4), .slice (x.I.la 5) (x.I.ln 5) (x.I.lc 5), .slice x.I.ca x.I.cn x.I.cc, .slice x.I.ea x.I.en x.I.ec, .slice none 0 0, .slice none 0 0, .slice none 0 0, .slice none 0 0, .slice none 0 0, .slice none 0 0, .slice none 0 0, .bool false, .int .u32 0, .slice none 0 0, .slice none 0 0] 175)) := (Kept.refl S0 w3).alloc _
  have HOB := Lib.hid (Blk.new w3 175 #[.slice x.I.ta x.I.tn x.I.tc, .slice (x.I.la 0) (x.I.ln 0) (x.I.lc 0), .slice (x.I.la 1) (x.I.ln 1) (x.I.lc 1), .slice (x.I.la 2) (x.I.ln 2) (x.I.lc 2), .slice (x.I.la 3) (x.I.ln 3) (x.I.lc 3), .slice (x.I.la 4) (x.I.ln 4) (x.I.lc 4), .slice (x.I.la 5) (x.I.ln 5) (x.I.lc 5), .slice x.I.ca x.I.cn x.I.cc, .slice x.I.ea x.I.en x.I.ec, .slice none 0 0, .slice none 0 0, .slice none 0 0, .slice none 0 0, .slice none 0 0, .slice none 0 0, .slice none 0 0, .bool false, .int .u32 0, .slice none 0 0, .slice none 0 0])
  have hS2 : (w3.alloc (.cells #[.slice x.I.ta x.I.tn x.I.tc, .slice (x.I.la 0) (x.I.ln 0) (x.I.lc 0), .slice (x.I.la 1) (x.I.ln 1) (x.I.lc 1), .slice (x.I.la 2) (x.I.ln 2) (x.I.lc 2), .slice (x.I.la 3) (x.I.ln 3) (x.I.lc 3), .slice (x.I.la 4) (x.I.ln 4) (x.I.lc 4), .slice (x.I.la 5) (x.I.ln 5) (x.I.lc 5), .slice x.I.ca x.I.cn x.I.cc, .slice x.I.ea x.I.en x.I.ec, .slice none 0 0, .slice none 0 0, .slice none 0 0, .slice none 0 0, .slice none 0 0, .slice none 0 0, .slice none 0 0, .bool false, .int .u32 0, .slice none 0 0, .slice none 0 0] 175)).cell? ⟨rb, 6, none⟩ = some (.slice lA Q.ni lc) ∧ (w3.alloc (.cells #[.slice x.I.ta x.I.tn x.I.tc, .slice (x.I.la 0) (x.I.ln 0) (x.I.lc 0), .slice (x.I.la 1) (x.I.ln 1) (x.I.lc 1), .slice (x.I.la 2) (x.I.ln 2) (x.I.lc 2), .slice (x.I.la 3) (x.I.ln 3) (x.I.lc 3), .slice (x.I.la 4) (x.I.ln 4) (x.I.lc 4), .slice (x.I.la 5) (x.I.ln 5) (x.I.lc 5), .slice x.I.ca x.I.cn x.I.cc, .slice x.I.ea x.I.en x.I.ec, .slice none 0 0, .slice none 0 0, .slice none 0 0, .slice none 0 0, .slice none 0 0, .slice none 0 0, .slice none 0 0, .bool false, .int .u32 0, .slice none 0 0, .slice none 0 0] 175)).cell? ⟨bx, 23, none⟩ = some (.slice x.I.ta x.I.tn x.I.tc) ∧ (w3.alloc (.cells #[.slice x.I.ta x.I.tn x.I.tc, .slice (x.I.la 0) (x.I.ln 0) (x.I.lc 0), .slice (x.I.la 1) (x.I.ln 1) (x.I.lc 1), .slice (x.I.la 2) (x.I.ln 2) (x.I.lc 2), .slice (x.I.la 3) (x.I.ln 3) (x.I.lc 3), .slice (x.I.la 4) (x.I.ln 4) (x.I.lc 4), .slice (x.I.la 5) (x.I.ln 5) (x.I.lc 5), .slice x.I.ca x.I.cn x.I.cc, .slice x.I.ea x.I.en x.I.ec, .slice none 0 0, .slice none 0 0, .slice none 0 0, .slice none 0 0, .slice none 0 0, .slice none 0 0, .slice none 0 0, .bool false, .int .u32 0, .slice none 0 0, .slice none 0 0] 175)).cell? ⟨bx, 24, none⟩ = some (.slice (x.I.la 0) (x.I.ln 0) (x.I.lc 0)) ∧ (w3.alloc (.cells #[.slice x.I.ta x.I.tn x.I.tc, .slice (x.I.la 0) (x.I.ln 0) (x.I.lc 0), .slice (x.I.la 1) (x.I.ln 1) (x.I.lc 1), .slice (x.I.la 2) (x.I.ln 2) (x.I.lc 2), .slice (x.I.la 3) (x.I.ln 3) (x.I.lc 3), .slice (x.I.la 4) (x.I.ln 4) (x.I.lc 4), .slice (x.I.la 5) (x.I.ln 5) (x.I.lc 5), .slice x.I.ca x.I.cn x.I.cc, .slice x.I.ea x.I.en x.I.ec, .slice none 0 0, .slice none 0 0, .slice none 0 0, .slice none 0 0, .slice none 0 0, .slice none 0 0, .slice none 0 0, .bool false, .int .u32 0, .slice none 0 0, .slice none 0 0] 175)).cell? ⟨bx, 25, none⟩ = some (.slice (x.I.la 1) (x.I.ln 1) (x.I.lc 1)) ∧ (w3.alloc (.cells #[.slice x.I.ta x.I.tn x.I.tc, .slice (x.I.la 0) (x.I.ln 0) (x.I.lc 0), .slice (x.I.la 1) (x.I.ln 1) (x.I.lc 1), .slice (x.I.la 2) (x.I.ln 2) (x.I.lc 2), .slice (x.I.la 3) (x.I.ln 3) (x.I.lc 3), .slice (x.I.la 4) (x.I.ln 4) (x.I.lc 4), .slice (x.I.la 5) (x.I.ln 5) (x.I.lc 5), .slice x.I.ca x.I.cn x.I.cc, .slice x.I.ea x.I.en x.I.ec, .slice none 0 0, .slice none 0 0, .slice none 0 0, .slice none 0 0, .slice none 0 0, .slice none 0 0, .slice none 0 0, .bool false, .int .u32 0, .slice none 0 0, .slice none 0 0] 175)).cell? ⟨bx, 26, none⟩ = some (.slice (x.I.la 2) (x.I.ln 2) (x.I.lc 2)) ∧ (w3.alloc (.cells #[.slice x.I.ta x.I.tn x.I.tc, .slice (x.I.la 0) (x.I.ln 0) (x.I.lc 0), .slice (x.I.la 1) (x.I.ln 1) (x.I.lc 1), .slice (x.I.la 2) (x.I.ln 2) (x.I.lc 2), .slice (x.I.la 3) (x.I.ln 3) (x.I.lc 3), .slice (x.I.la 4) (x.I.ln 4) (x.I.lc 4), .slice (x.I.la 5) (x.I.ln 5) (x.I.lc 5), .slice x.I.ca x.I.cn x.I.cc, .slice x.I.ea x.I.en x.I.ec, .slice none 0 0, .slice none 0 0, .slice none 0 0, .slice none 0 0, .slice none 0 0, .slice none 0 0, .slice none 0 0, .bool false, .int .u32 0, .slice none 0 0, .slice none 0 0] 175)).cell? ⟨bx, 27, none⟩ = some (.slice (x.I.la 3) (x.I.ln 3) (x.I.lc 3)) ∧ (w3.alloc (.cells #[.slice x.I.ta x.I.tn x.I.tc, .slice (x.I.la 0) (x.I.ln 0) (x.I.lc 0), .slice (x.I.la 1) (x.I.ln 1) (x.I.lc 1), .slice (x.I.la 2) (x.I.ln 2) (x.I.lc 2), .slice (x.I.la 3) (x.I.ln 3) (x.I.lc 3), .slice (x.I.la 4) (x.I.ln 4) (x.I.lc 4), .slice (x.I.la 5) (x.I.ln 5) (x.I.lc 5), .slice x.I.ca x.I.cn x.I.cc, .slice x.I.ea x.I.en x.I.ec, .slice none 0 0, .slice none 0 0, .slice none 0 0, .slice none 0 0, .slice none 0 0, .slice none 0 0, .slice none 0 0, .bool false, .int .u32 0, .slice none 0 0, .slice none 0 0] 175)).cell? ⟨bx, 28, none⟩ = some (.slice (x.I.la 4) (x.I.ln 4) (x.I.lc 4)) ∧ (w3.alloc (.cells #[.slice x.I.ta x.I.tn x.I.tc, .slice (x.I.la 0) (x.I.ln 0) (x.I.lc 0), .slice (x.I.la 1) (x.I.ln 1) (x.I.lc 1), .slice (x.I.la 2) (x.I.ln 2) (x.I.lc 2), .slice (x.I.la 3) (x.I.ln 3) (x.I.lc 3), .slice (x.I.la 4) (x.I.ln 4) (x.I.lc 4), .slice (x.I.la 5) (x.I.ln 5) (x.I.lc 5), .slice x.I.ca x.I.cn x.I.cc, .slice x.I.ea x.I.en x.I.ec, .slice none 0 0, .slice none 0 0, .slice none 0 0, .slice none 0 0, .slice none 0 0, .slice none 0 0, .slice none 0 0, .bool false, .int .u32 0, .slice none 0 0, .slice none 0 0] 175)).cell? ⟨bx, 29, none⟩ = some (.slice (x.I.la 5) (x.I.ln 5) (x.I.lc 5)) ∧ (w3.alloc (.cells #[.slice x.I.ta x.I.tn x.I.tc, .slice (x.I.la 0) (x.I.ln 0) (x.I.lc 0), .slice (x.I.la 1) (x.I.ln 1) (x.I.lc 1), .slice (x.I.la 2) (x.I.ln 2) (x.I.lc 2), .slice (x.I.la 3) (x.I.ln 3) (x.I.lc 3), .slice (x.I.la 4) (x.I.ln 4) (x.I.lc 4), .slice (x.I.la 5) (x.I.ln 5) (x.I.lc 5), .slice x.I.ca x.I.cn x.I.cc, .slice x.I.ea x.I.en x.I.ec, .slice none 0 0, .slice none 0 0, .slice none 0 0, .slice none 0 0, .slice none 0 0, .slice none 0 0, .slice none 0 0, .bool false, .int .u32 0, .slice none 0 0, .slice none 0 0] 175)).cell? ⟨bx, 30, none⟩ = some (.slice x.I.ca x.I.cn x.I.cc) ∧ (w3.alloc (.cells #[.slice x.I.ta x.I.tn x.I.tc, .slice (x.I.la 0) (x.I.ln 0) (x.I.lc 0), .slice (x.I.la 1) (x.I.ln 1) (x.I.lc 1), .slice (x.I.la 2) (x.I.ln 2) (x.I.lc 2), .slice (x.I.la 3) (x.I.ln 3) (x.I.lc 3), .slice (x.I.la 4) (x.I.ln 4) (x.I.lc 4), .slice (x.I.la 5) (x.I.ln 5) (x.I.lc 5), .slice x.I.ca x.I.cn x.I.cc, .slice x.I.ea x.I.en x.I.ec, .slice none 0 0, .slice none 0 0, .slice none 0 0, .slice none 0 0, .slice none 0 0, .slice none 0 0, .slice none 0 0, .bool false, .int .u32 0, .slice none 0 0, .slice none 0 0] 175)).cell? ⟨bx, 31, none⟩ = some (.slice x.I.ea x.I.en x.I.ec) := ⟨keep0 hal hS.1, keep0 hal hS.2.1, keep0 hal hS.2.2.1, keep0 hal hS.2.2.2.1, keep0 hal hS.2.2.2.2.1, keep0 hal hS.2.2.2.2.2.1, keep0 hal hS.2.2.2.2.2.2.1, keep0 hal hS.2.2.2.2.2.2.2.1, keep0 hal hS.2.2.2.2.2.2.2.2.1, keep0 hal hS.2.2.2.2.2.2.2.2.2⟩
  have HOS := Lib.hid (show w2.heap.size ≤ w3.heap.size from HKD.out.size)
  have HK4 := Lib.hid (HKD.out.then0 hal)
  refine hK.out _ _ (fun _ => hS2) ?_
  clear hK K hS hal
  generalize w3.heap.size = ob at *
  generalize (w3.alloc (.cells #[.slice x.I.ta x.I.tn x.I.tc, .slice (x.I.la 0) (x.I.ln 0) (x.I.lc 0), .slice (x.I.la 1) (x.I.ln 1) (x.I.lc 1), .slice (x.I.la 2) (x.I.ln 2) (x.I.lc 2), .slice (x.I.la 3) (x.I.ln 3) (x.I.lc 3), .slice (x.I.la 4) (x.I.ln 4) (x.I.lc 4), .slice (x.I.la 5) (x.I.ln 5) (x.I.lc 5), .slice x.I.ca x.I.cn x.I.cc, .slice x.I.ea x.I.en x.I.ec, .slice none 0 0, .slice none 0 0, .slice none 0 0, .slice none 0 0, .slice none 0 0, .slice none 0 0, .slice none 0 0, .bool false, .int .u32 0, .slice none 0 0, .slice none 0 0] 175)) = w4 at *
  refine wpAnyR_one 9 rfl (by kernel_rfl) (fun K hK => ?_)
  go_simp
  have hal : Kept S0 w4 (w4.alloc (.cells #[.pointer (some ⟨ob, 0, none⟩)] 176)) := (Kept.refl S0 w4).alloc _
  have hnw := Blk.new w4 176 #[.pointer (some ⟨ob, 0, none⟩)]
  have hS3 : (w4.alloc (.cells #[.pointer (some ⟨ob, 0, none⟩)] 176)).cell? ⟨rb, 6, none⟩ = some (.slice lA Q.ni lc) ∧ (w4.alloc (.cells #[.pointer (some ⟨ob, 0, none⟩)] 176)).cell? ⟨bx, 23, none⟩ = some (.slice x.I.ta x.I.tn x.I.tc) ∧ (w4.alloc (.cells #[.pointer (some ⟨ob, 0, none⟩)] 176)).cell? ⟨bx, 24, none⟩ = some (.slice (x.I.la 0) (x.I.ln 0) (x.I.lc 0)) ∧ (w4.alloc (.cells #[.pointer (some ⟨ob, 0, none⟩)] 176)).cell? ⟨bx, 25, none⟩ = some (.slice (x.I.la 1) (x.I.ln 1) (x.I.lc 1)) ∧ (w4.alloc (.cells #[.pointer (some ⟨ob, 0, none⟩)] 176)).cell? ⟨bx, 26, none⟩ = some (.slice (x.I.la 2) (x.I.ln 2) (x.I.lc 2)) ∧ (w4.alloc (.cells #[.pointer (some ⟨ob, 0, none⟩)] 176)).cell? ⟨bx, 27, none⟩ = some (.slice (x.I.la 3) (x.I.ln 3) (x.I.lc 3)) ∧ (w4.alloc (.cells #[.pointer (some ⟨ob, 0, none⟩)] 176)).cell? ⟨bx, 28, none⟩ = some (.slice (x.I.la 4) (x.I.ln 4) (x.I.lc 4)) ∧ (w4.alloc (.cells #[.pointer (some ⟨ob, 0, none⟩)] 176)).cell? ⟨bx, 29, none⟩ = some (.slice (x.I.la 5) (x.I.ln 5) (x.I.lc 5)) ∧ (w4.alloc (.cells #[.pointer (some ⟨ob, 0, none⟩)] 176)).cell? ⟨bx, 30, none⟩ = some (.slice x.I.ca x.I.cn x.I.cc) ∧ (w4.alloc (.cells #[.pointer (some ⟨ob, 0, none⟩)] 176)).cell? ⟨bx, 31, none⟩ = some (.slice x.I.ea x.I.en x.I.ec) := ⟨keep0 hal hS2.1, keep0 hal hS2.2.1, keep0 hal hS2.2.2.1, keep0 hal hS2.2.2.2.1, keep0 hal hS2.2.2.2.2.1, keep0 hal hS2.2.2.2.2.2.1, keep0 hal hS2.2.2.2.2.2.2.1, keep0 hal hS2.2.2.2.2.2.2.2.1, keep0 hal hS2.2.2.2.2.2.2.2.2.1, keep0 hal hS2.2.2.2.2.2.2.2.2.2⟩
  have hsl : Sl (w4.alloc (.cells #[.pointer (some ⟨ob, 0, none⟩)] 176)) (some ⟨w4.heap.size, 0, none⟩) (1 * 1) (ecell #[.pointer (some ⟨ob, 0, none⟩)]) := fun _ => ⟨w4.heap.size, 0, rfl, fun i hi => by
    rw [Nat.zero_add]
    match i, hi with
    | 0, _ => exact hnw.cell 0⟩
  have hone : ∀ j, j < 1 * 1 → (ecell #[.pointer (some ⟨ob, 0, none⟩)] j).oneCell' = true := fun i hi => by
    match i, hi with
    | 0, _ => rfl
  have HK5 := Lib.hid (HK4.out.then0 hal)
  have HOB5 := Lib.hid (hal.blk HOB.out (fun x => x))
  have hoa : Own (w4.alloc (.cells #[.pointer (some ⟨ob, 0, none⟩)] 176)) w0.heap.size 176 1 AnyV (.slice lA Q.ni lc) Q.ni u.I := by have h := HR2.out.ls.i.kept HK5.out (fun _ _ x => x); rwa [HLV.out] at h
  have hBa : w0.heap.size ≤ (w4.alloc (.cells #[.pointer (some ⟨ob, 0, none⟩)] 176)).heap.size := Nat.le_trans HB2.out.size HK5.out.size
  have hn := hQ.i
  refine hK.out _ _ (fun _ => hS3) ?_
  clear hK K hS2 hnw hal HK4 HOB
  generalize w4.heap.size = nb at *
  generalize (w4.alloc (.cells #[.pointer (some ⟨ob, 0, none⟩)] 176)) = w5 at *
  refine wpAnyR_one 10 rfl (by kernel_rfl) (fun K hK => ?_)
  refine step_append_all rfl (.tmp 159) (.tmp 164) 87 rfl w0.heap.size 176 z 1 8 Tryz.underlying87 hinfo hzs (by omega) AnyV (fun _ _ => trivial) _ Q.ni u.I rfl hoa (some ⟨nb, 0, none⟩) 1 1 (ecell #[.pointer (some ⟨ob, 0, none⟩)]) rfl hsl (fun h => by cases h) (fun _ _ => trivial) hone (by unfold maxLen; omega) (by omega) hBa ?_
  intro v' w' ha
  obtain ⟨A', c', rfl, _, _, _⟩ := ha.own.out
  have hb5 := HK5.out.blk HR2.out.ls.obj (fun x => x)
  have hKw : Kept (fun g => (Value.slice lA Q.ni lc).ownBlock = some g) w5 w' := (Kept.refl _ w5).grown ⟨ha.grown.os, ha.grown.tape, ha.grown.output, ha.grown.size, ha.grown.block⟩ (fun g hg => .inl hg)
  have hb6 := hKw.blk hb5 (fun e => hoa.ne_blk hb5 (by decide) e)
  have x2 : w'.cell? ⟨rb, 6, none⟩ = some (.slice lA Q.ni lc) := by rw [← HLV.out]; exact hb6.cell 6
  have y2 := hb6.frozen 6
  have hX5 := HK5.out.blk HX2.out (fun x => x)
  have hX6 := hKw.blk hX5 (fun e => hoa.ne_blk hX5 (by decide) e)
  have HOB6 := Lib.hid (hKw.blk HOB5.out (fun e => hoa.ne_blk HOB5.out (by decide) e))
  have HOW := Lib.hid ha.own
  have HBLK := Lib.hid ha.block
  have HB6 := Lib.hid hb6
  have HKW := Lib.hid hKw
  have hS6 : w'.cell? ⟨rb, 6, none⟩ = some (.slice lA Q.ni lc) ∧ w'.cell? ⟨bx, 23, none⟩ = some (.slice x.I.ta x.I.tn x.I.tc) ∧ w'.cell? ⟨bx, 24, none⟩ = some (.slice (x.I.la 0) (x.I.ln 0) (x.I.lc 0)) ∧ w'.cell? ⟨bx, 25, none⟩ = some (.slice (x.I.la 1) (x.I.ln 1) (x.I.lc 1)) ∧ w'.cell? ⟨bx, 26, none⟩ = some (.slice (x.I.la 2) (x.I.ln 2) (x.I.lc 2)) ∧ w'.cell? ⟨bx, 27, none⟩ = some (.slice (x.I.la 3) (x.I.ln 3) (x.I.lc 3)) ∧ w'.cell? ⟨bx, 28, none⟩ = some (.slice (x.I.la 4) (x.I.ln 4) (x.I.lc 4)) ∧ w'.cell? ⟨bx, 29, none⟩ = some (.slice (x.I.la 5) (x.I.ln 5) (x.I.lc 5)) ∧ w'.cell? ⟨bx, 30, none⟩ = some (.slice x.I.ca x.I.cn x.I.cc) ∧ w'.cell? ⟨bx, 31, none⟩ = some (.slice x.I.ea x.I.en x.I.ec) := ⟨x2, hX6.cell 23, hX6.cell 24, hX6.cell 25, hX6.cell 26, hX6.cell 27, hX6.cell 28, hX6.cell 29, hX6.cell 30, hX6.cell 31⟩
  refine hK.out _ _ (fun _ => hS6) ?_
  clear hK K hS3 ha hKw hb5 hb6 hX5 hX6 hoa HOB5
  refine wpAnyR_late 11 (v := ?_) rfl (by kernel_rfl) (by kernel_rfl) (by kernel_rfl) (by kernel_rfl) (fun _ _ _ h => h) (fun _ => hS6) ⟨by rfl, ?_⟩ ?_
  rotate_left; (intro w; first | (go_simp; done) | (go_simp; with_reducible rfl))
  simp only [zq1, zq2, zq3, Act.put, zq4, zq5, zq6]
  refine wpAnyR_late 12 (v := ?_) rfl (by kernel_rfl) (by kernel_rfl) (by kernel_rfl) (by kernel_rfl) (fun _ _ _ h => h) (fun _ => hS6) ⟨by rfl, ?_⟩ ?_
  rotate_left; (intro w; first | (go_simp; done) | (go_simp; with_reducible rfl))
  simp only [zq1, zq2, zq3, Act.put, zq4, zq5, zq6]
  refine wpAnyR_one 13 rfl (by kernel_rfl) (fun K hK => ?_)
  go_simp
  refine hK.out _ _ (fun h => absurd h (by decide)) ?_
  clear hK K hS6
  refine wpAnyR_done (by kernel_rfl) ?_ _
  have hkf : Kept (ST rb u.il) w2 (w'.setCell ⟨rb, 6, none⟩ (.slice A' (Q.ni + 1) c')) := ((HK5.out.of0 _).trans (HKW.out.mono (fun g hg => .inr (by rw [HLV.out]; exact hg)))).setCell (p := ⟨rb, 6, none⟩) (.inl (.inl rfl)) _
  have hks : Kept (S1 rb) w' (w'.setCell ⟨rb, 6, none⟩ (.slice A' (Q.ni + 1) c')) := (Kept.refl (S1 rb) w').setCell (p := ⟨rb, 6, none⟩) (.inl rfl) _
  have hof := HOW.out.kept hks (fun g hg e => HOW.out.ne_blk HB6.out (by decide) (by have e' : g = rb := e; rw [← e']; exact hg))
  have hbf := HB6.out.set_ 6 (.slice A' (Q.ni + 1) c')
  have hob := hks.blk HOB6.out (fun e => by have e' : ob = rb := e; exact HB6.out.ofT.ne HOB6.out.ofT (by decide) e'.symm)
  obtain ⟨lab3, u3, hr3, m3⟩ := HR2.out.pushI (fun _ => 0) x.I.pin hbf hof (fun j hj => after_old (by omega)) hkf (by
    rw [HLV.out]
    exact HBLK.out.imp id (fun e => ⟨_, e, HK5.out.size⟩)) (fun lab' l1 l3 => by
      have hb' : Bas w0 lab' (w'.setCell ⟨rb, 6, none⟩ (.slice A' (Q.ni + 1) c')) := ⟨HB2.out.k.trans_ hkf (fun g hg => .inr (by
        rcases hg with e | e
        · rw [e]; exact HR2.out.ls.lo
        · exact (HR2.out.ls.i.lt g e).1)), fun g hg => (l1 g (Nat.lt_of_lt_of_le hg HB2.out.size)).trans (HB2.out.l g hg)⟩
      have hI := HX.out.i
      exact ⟨ob, by rw [Nat.mul_one]; exact after_new0, lab_obj hob HOS.out hof (by decide) l3, fun j hj => by
        match j, hj with
        | 0, _ => exact ⟨_, _, hob.cell 1, (hI.l 0 (by omega)).lab hb'⟩
        | 1, _ => exact ⟨_, _, hob.cell 2, (hI.l 1 (by omega)).lab hb'⟩
        | 2, _ => exact ⟨_, _, hob.cell 3, (hI.l 2 (by omega)).lab hb'⟩
        | 3, _ => exact ⟨_, _, hob.cell 4, (hI.l 3 (by omega)).lab hb'⟩
        | 4, _ => exact ⟨_, _, hob.cell 5, (hI.l 4 (by omega)).lab hb'⟩
        | 5, _ => exact ⟨_, _, hob.cell 6, (hI.l 5 (by omega)).lab hb'⟩
        , ⟨_, _, _, hob.cell 8, hI.ex.lab hb', hI.exf⟩, ⟨_, _, _, hob.cell 0⟩, ⟨_, _, _, hob.cell 7⟩⟩)
  have HF := Lib.hid (show BDone w0.heap.size lab w (w'.setCell ⟨rb, 6, none⟩ (.slice A' (Q.ni + 1) c')) sb rb (addI P x.I.pin).2.2 (addI Q x.I.pin).2.2 from ⟨lab3, v2, u3, HS2.out.move m3 (fun _ _ x => x), hr3, Mv.three HM.out HM2.out m3⟩)
  clear hr3 m3 hkf hks hof hbf hob x2 y2
  by_cases e1 : (addI P x.I.pin).1 = (Q.ni : Int)
  · go_wp2_with fail
    go_ret
    exact ⟨by rw [show (addI Q x.I.pin).1 = (Q.ni : Int) from rfl, decide_eq_true e1]; rfl, HF.out⟩
  · go_wp2_with fail
    go_ret
    exact ⟨by rw [show (addI Q x.I.pin).1 = (Q.ni : Int) from rfl, decide_eq_false e1]; rfl, HF.out⟩
set_option maxRecDepth 100000 in
set_option maxHeartbeats 6400000 in
theorem add_no (x : ActP) (d : Int) (h0 : d ≠ 0) (h1 : d ≠ 1) (h2 : d ≠ 2) (h3 : d ≠ 3) (h4 : d ≠ 4) (h5 : d ≠ 5) (h6 : d ≠ 6) (hs : SAt w0.heap.size lab w sb P v) (hr : RAt w0.heap.size lab w rb Q u) :
    Calls Tryz.prog 23 #[.pointer (some ⟨sb, 0, none⟩), .pointer (some ⟨rb, 0, none⟩), .agg (x.cells d)] w fun e w' => e = .returned (.bool true) ∧ BDone w0.heap.size lab w w' sb rb P Q := by
  have hka : Kept S0 w (w.alloc (.cells (x.cells d) 79)) := (Kept.refl S0 w).alloc _
  have HBX := Lib.hid (Blk.new w 79 (x.cells d))
  have HF := Lib.hid (show BDone w0.heap.size lab w (w.alloc (.cells (x.cells d) 79)) sb rb P Q from ⟨lab, v, u, hs.kept0 hka, hr.kept0 hka, hka.of0 _, fun _ _ => rfl⟩)
  clear hs hr hka
  have c0 : (w.alloc (.cells (x.cells d) 79)).cell? ⟨w.heap.size, 0, none⟩ = some (.int .i64 d) := HBX.out.cell 0
  go_enter Tryz.func23, Tryz.ntmps23
  go_wp2_with fail
  go_ret
  exact ⟨rfl, HF.out⟩
theorem add_any (x : ActP) (d : Int) (hx : ActOk w0 x) (hs : SAt w0.heap.size lab w sb P v) (hr : RAt w0.heap.size lab w rb Q u) (hb : Bas w0 lab w) (hP : P.Le 200) (hQ : Q.Le 200) :
    Calls Tryz.prog 23 #[.pointer (some ⟨sb, 0, none⟩), .pointer (some ⟨rb, 0, none⟩), .agg (x.cells d)] w fun e w' => e = .returned (.bool (decide ((addP P d x).1 = (addP Q d x).1) && decide ((addP P d x).2.1 = (addP Q d x).2.1))) ∧ BDone w0.heap.size lab w w' sb rb (addP P d x).2.2 (addP Q d x).2.2 := by
  by_cases h0 : d = 0
  · subst h0; exact add_0 x hx hs hr hb hP hQ
  by_cases h1 : d = 1
  · subst h1; exact add_1 x hx hs hr hb hP hQ
  by_cases h2 : d = 2
  · subst h2; exact add_2 x hx hs hr hb hP hQ
  by_cases h3 : d = 3
  · subst h3; exact add_3 x hx hs hr hb hP hQ
  by_cases h4 : d = 4
  · subst h4; exact add_4 x hx hs hr hb hP hQ
  by_cases h5 : d = 5
  · subst h5; exact add_5 x hx hs hr hb hP hQ
  by_cases h6 : d = 6
  · subst h6; exact add_6 x hx hs hr hb hP hQ
  simp only [addP, if_neg h0, if_neg h1, if_neg h2, if_neg h3, if_neg h4, if_neg h5, if_neg h6]
  exact add_no x d h0 h1 h2 h3 h4 h5 h6 hs hr
end
end Go.Proofs.YtlnkdnmeikpckaaGreat
