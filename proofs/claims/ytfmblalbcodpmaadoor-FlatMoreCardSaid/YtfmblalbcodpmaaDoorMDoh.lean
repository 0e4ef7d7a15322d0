/- What the proofs lean on, part 8 of Do. No condition. -/
import Derived.Test.YtfmblalbcodpmaaDoorMDoa
import Derived.Test.YtfmblalbcodpmaaDoorMDob
import Derived.Test.YtfmblalbcodpmaaDoorMDoc
import Derived.Test.YtfmblalbcodpmaaDoorMDod
import Derived.Test.YtfmblalbcodpmaaDoorMDoe
import Derived.Test.YtfmblalbcodpmaaDoorMDof
import Derived.Test.YtfmblalbcodpmaaDoorMDog
import Derived.Test.YtfmblalbcodpmaaDoorRows
import Derived.ProofKit
import Derived.SizedLaws
import Derived.Lib.SmallJoins
import Derived.Test.YtfmblalbcodpmaaDoorCards
import Derived.Test.YtfmblalbcodpmaaDoorTie
import Derived.Deep.DeepHandedRow
import Derived.Deep.DeepWitnessRowRef
import Derived.Lib.LaidTab
import Derived.Lib.LaidIn
import Derived.Lib.LaidU8
namespace Go.Proofs.YtfmblalbcodpmaaDoor
open Go.RowKit
theorem inf_le (o : Nat) (i : Inf) (h : inf o = some i) : i.1 ≤ 26 := by
  have hp : ∀ l : List (Option Inf), (l.all fun x => match x with | some i => i.1 ≤ 26 | none => true) = true → ∀ n i, l.getD n none = some i → i.1 ≤ 26 := fun l hl n i hi => by
    rw [List.getD_eq_getElem?_getD] at hi
    cases hq : l[n]? with
    | none => rw [hq] at hi; cases hi
    | some x =>
      rw [hq] at hi
      simp only [Option.getD_some] at hi
      subst hi
      have := List.all_eq_true.1 hl _ (List.mem_of_getElem? hq)
      simpa using this
  unfold inf at h
  split at h
  · exact hp pageA (by kernel_rfl) _ _ h
  · split at h
    · exact hp pageC (by kernel_rfl) _ _ h
    · split at h
      · exact hp pageD (by kernel_rfl) _ _ h
      · cases h
set_option maxRecDepth 100000 in
set_option maxHeartbeats 16000000 in
theorem fits_none (x : IC) (w : World) (hle : ICle x) (hsp : SpTab w) (hi : inf x.op = none) :
    Calls Tryd.prog 53 #[.agg x.arr] w fun e w' => e = .returned (.bool false) ∧ Kept S0 w w' := by
  have hka : Kept S0 w (w.alloc (.cells x.arr 70)) := (Kept.refl S0 w).alloc _
  have hb1 : Blk (w.alloc (.cells x.arr 70)) w.heap.size 70 x.arr := Blk.new w _ _
  have HKA := Lib.hid hka
  have HSP := Lib.hid hsp
  have HO := Lib.hid (fun w' hs => of_any x.op w' hle.op hs)
  have HI := Lib.hid hi
  clear hka hsp hle hi
  unfold IC.arr at *
  obtain ⟨xop, xa, xb, xn, xv, xlA, xln, xlc, xtA, xtn, xtc, xbk, xbv, xbt, xbA, xbn, xbc, xeA, xen, xec⟩ := x
  simp only at *
  have HB1 := Lib.hid hb1
  have c0 : (w.alloc (.cells #[.int .u16 (xop : Int), .int .u32 (xa : Int), .int .u32 (xb : Int), .int .u64 (xn : Int), .int .u8 ((xv 0).toNat : Int), .int .u8 ((xv 1).toNat : Int), .int .u8 ((xv 2).toNat : Int), .int .u8 ((xv 3).toNat : Int), .int .u8 ((xv 4).toNat : Int), .int .u8 ((xv 5).toNat : Int), .int .u8 ((xv 6).toNat : Int), .int .u8 ((xv 7).toNat : Int), .int .u8 ((xv 8).toNat : Int), .int .u8 ((xv 9).toNat : Int), .int .u8 ((xv 10).toNat : Int), .int .u8 ((xv 11).toNat : Int), .int .u8 ((xv 12).toNat : Int), .int .u8 ((xv 13).toNat : Int), .int .u8 ((xv 14).toNat : Int), .int .u8 ((xv 15).toNat : Int), .slice xlA xln xlc, .slice xtA xtn xtc, .int .u8 (xbk : Int), .int .u8 (xbv : Int), .int .u32 (xbt : Int), .slice xbA xbn xbc, .slice xeA xen xec] 70)).cell? ⟨w.heap.size, 0, none⟩ = some (.int .u16 (xop : Int)) := hb1.cell 0
  clear hb1
  go_enter Tryd.func53, Tryd.ntmps53
  go_wp2_with fail
  generalize (w.alloc (.cells #[.int .u16 (xop : Int), .int .u32 (xa : Int), .int .u32 (xb : Int), .int .u64 (xn : Int), .int .u8 ((xv 0).toNat : Int), .int .u8 ((xv 1).toNat : Int), .int .u8 ((xv 2).toNat : Int), .int .u8 ((xv 3).toNat : Int), .int .u8 ((xv 4).toNat : Int), .int .u8 ((xv 5).toNat : Int), .int .u8 ((xv 6).toNat : Int), .int .u8 ((xv 7).toNat : Int), .int .u8 ((xv 8).toNat : Int), .int .u8 ((xv 9).toNat : Int), .int .u8 ((xv 10).toNat : Int), .int .u8 ((xv 11).toNat : Int), .int .u8 ((xv 12).toNat : Int), .int .u8 ((xv 13).toNat : Int), .int .u8 ((xv 14).toNat : Int), .int .u8 ((xv 15).toNat : Int), .slice xlA xln xlc, .slice xtA xtn xtc, .int .u8 (xbk : Int), .int .u8 (xbv : Int), .int .u32 (xbt : Int), .slice xbA xbn xbc, .slice xeA xen xec] 70)) = w1 at *
  refine (HO.out w1 (HSP.out.kept0 HKA.out)).mono ?_
  rintro e w2 ⟨hk2, ⟨hi, rfl⟩ | ⟨i, name, plain, vf, vt, hi, rfl, hinf⟩⟩
  · have HK2 := Lib.hid (HKA.out.then0 hk2)
    clear hi hk2 c0
    unfold infoZ
    go_wp2_with fail
    go_ret
    exact ⟨rfl, HK2.out.alloc _⟩
  · rw [HI.out] at hi
    cases hi
theorem fits_any (x : IC) (L T : List Nat) (w : World) (hx : InsC w x L T) (hle : ICle x) (hsp : SpTab w) :
    Calls Tryd.prog 53 #[.agg x.arr] w fun e w' => e = .returned (.bool (fitsP x L T)) ∧ Kept S0 w w' := by
  unfold fitsP
  cases hi : inf x.op with
  | none => exact fits_none x w hle hsp hi
  | some i =>
    obtain ⟨imm, bits, shp, from_, to_⟩ := i
    have hle26 : imm ≤ 26 := inf_le _ _ hi
    have hc : imm = 0 ∨ imm = 1 ∨ imm = 2 ∨ imm = 3 ∨ imm = 4 ∨ imm = 5 ∨ imm = 6 ∨ imm = 7 ∨ imm = 8 ∨ imm = 9 ∨ imm = 10 ∨ imm = 11 ∨ imm = 12 ∨ imm = 13 ∨ imm = 14 ∨ imm = 15 ∨ imm = 16 ∨ imm = 17 ∨ imm = 18 ∨ imm = 19 ∨ imm = 20 ∨ imm = 21 ∨ imm = 22 ∨ imm = 23 ∨ imm = 24 ∨ imm = 25 ∨ imm = 26 := by omega
    rcases hc with h | h | h | h | h | h | h | h | h | h | h | h | h | h | h | h | h | h | h | h | h | h | h | h | h | h | h
    · exact fits_z x L T w hx hle hsp imm bits shp from_ to_ hi (by omega)
    · exact (if h4 : x.op = 4 then fits_g x L T w hx hle hsp imm bits shp from_ to_ hi h4 h else fits_h x L T w hx hle hsp imm bits shp from_ to_ hi h4 h)
    · exact fits_a x L T w hx hle hsp imm bits shp from_ to_ hi (by omega)
    · exact fits_x x L T w hx hle hsp imm bits shp from_ to_ hi (by omega)
    · exact fits_a x L T w hx hle hsp imm bits shp from_ to_ hi (by omega)
    · exact fits_d x L T w hx hle hsp imm bits shp from_ to_ hi (by omega)
    · exact fits_a x L T w hx hle hsp imm bits shp from_ to_ hi (by omega)
    · exact fits_a x L T w hx hle hsp imm bits shp from_ to_ hi (by omega)
    · exact fits_b x L T w hx hle hsp imm bits shp from_ to_ hi (by omega)
    · exact fits_d x L T w hx hle hsp imm bits shp from_ to_ hi (by omega)
    · exact fits_b x L T w hx hle hsp imm bits shp from_ to_ hi (by omega)
    · exact fits_d x L T w hx hle hsp imm bits shp from_ to_ hi (by omega)
    · exact fits_b x L T w hx hle hsp imm bits shp from_ to_ hi (by omega)
    · exact fits_b x L T w hx hle hsp imm bits shp from_ to_ hi (by omega)
    · exact fits_z x L T w hx hle hsp imm bits shp from_ to_ hi (by omega)
    · exact fits_z x L T w hx hle hsp imm bits shp from_ to_ hi (by omega)
    · exact fits_p x L T w hx hle hsp imm bits shp from_ to_ hi (by omega)
    · exact fits_q x L T w hx hle hsp imm bits shp from_ to_ hi (by omega)
    · exact fits_l x L T w hx hle hsp imm bits shp from_ to_ hi (by omega)
    · exact fits_v x L T w hx hle hsp imm bits shp from_ to_ hi (by omega)
    · exact fits_m x L T w hx hle hsp imm bits shp from_ to_ hi (by omega)
    · exact fits_n x L T w hx hle hsp imm bits shp from_ to_ hi (by omega)
    · exact fits_m x L T w hx hle hsp imm bits shp from_ to_ hi (by omega)
    · exact fits_n x L T w hx hle hsp imm bits shp from_ to_ hi (by omega)
    · exact fits_v x L T w hx hle hsp imm bits shp from_ to_ hi (by omega)
    · exact (if h1 : x.tn = 1 then (if h2 : isRefT (T.getD 0 0) = true then fits_r2 x L T w hx hle hsp imm bits shp from_ to_ hi h1 h2 h else fits_r1 x L T w hx hle hsp imm bits shp from_ to_ hi h1 (by simpa using h2) h) else fits_r0 x L T w hx hle hsp imm bits shp from_ to_ hi h1 h)
    · exact fits_t x L T w hx hle hsp imm bits shp from_ to_ hi (by omega)
end Go.Proofs.YtfmblalbcodpmaaDoor
namespace Go.Proofs.YtfmblalbcodpmaaDoor
open Go.RowKit
theorem addr_add (b o j : Nat) : (⟨b, o, none⟩ : Addr).add j = ⟨b, o + j, none⟩ := by
  unfold Addr.add
  split <;> simp_all
section
variable {P : Program}
theorem run_loadVar_cells (w : World) (a : Addr) (ty : TypeId) (cs : Array Value) (d : TypeDesc) (hc : ∀ j, j < cs.size → w.cell? (a.add j) = cs[j]?)
    (hu : P.underlying ty = some d) (hd : (match d with | .struct _ | .array _ _ => true | _ => false) = true) (hi : (P.info? ty).map (·.size) = some cs.size) :
    (loadVar ty a).run P w = .ok (.agg cs) w := by
  have hl : (loadCells a cs.toList.length).run P w = .ok cs.toList.toArray w :=
    run_loadCells_list (P := P) w a cs.toList (fun j v hv => by
      have hj : j < cs.size := by
        obtain ⟨h, _⟩ := List.getElem?_eq_some_iff.1 hv
        simpa using h
      rw [hc j hj]
      simpa using hv)
  cases hq : P.info? ty with
  | none => simp [hq] at hi
  | some i =>
    have hs : i.size = cs.size := by simpa [hq] using hi
    have hagg : (isAgg ty).run P w = .ok true w := by
      unfold isAgg
      rw [Sem.run_bind, run_underlying hu w]
      cases d <;> simp_all
    simp only [Array.length_toList, Array.toArray_toList] at hl
    simp [loadVar, Sem.run_bind, hagg, sizeOf, typeInfo, hq, hs, hl]
theorem wpList_load_cells_g {ops : Array Oper} {rest : List Oper} {o : Oper} {a : Act} {w : World} {Q : Exit → Act → World → Prop} (hgd : Region.wanted o (yielded ops a.tmps) = true) (ty : TypeId) (x : Operand) (ho : o.op = .load ty x)
    (p : Addr) (hx : a.eval x = .pointer (some p)) (cs : Array Value) (d : TypeDesc) (hc : ∀ j, j < cs.size → w.cell? (p.add j) = cs[j]?)
    (hu : P.underlying ty = some d) (hd : (match d with | .struct _ | .array _ _ => true | _ => false) = true) (hi : (P.info? ty).map (·.size) = some cs.size)
    (h : wpList P ops Q rest (a.put o.dst (.agg cs)) w) : wpList P ops Q (o :: rest) a w := by
  refine wpList_step fun K hK => ?_
  rw [if_pos hgd]
  unfold Oper.wp execOp
  simp only [ho, hx, Instr.loadAt, Instr.sureAddr, Sem.run_bind, Sem.run_pure, Result.andThen_ok, run_loadVar_cells w p ty cs d hc hu hd hi]
  exact hK _ _ h
end
end Go.Proofs.YtfmblalbcodpmaaDoor
namespace Go.Proofs.YtfmblalbcodpmaaDoor
open Go.RowKit
def Ins.ic (x : Ins) (bl el : Nat) : IC := ⟨x.op, x.a, x.b, x.n, x.v, none, x.L.length, 0, none, x.T.length, 0, x.bk, x.bv, x.bt, none, bl, 0, none, el, 0⟩
/-- May an instruction be, by itself? -/
def fitsX (x : Ins) (bd el : Fo) : Bool := fitsP (x.ic bd.len el.len) x.L x.T
/-- What of two instructions must be the same, so that both may be, or none. -/
structure ICeq (i j : IC) : Prop where
  op : i.op = j.op
  a : i.a = j.a
  b : i.b = j.b
  n : i.n = j.n
  v : i.v = j.v
  ln : i.ln = j.ln
  tn : i.tn = j.tn
  bk : i.bk = j.bk
  bv : i.bv = j.bv
  bt : i.bt = j.bt
  bn : i.bn = j.bn
  en : i.en = j.en
theorem ICeq.ite {c : Prop} [Decidable c] {A A' B B' : IC} (h1 : ICeq A A') (h2 : ICeq B B') : ICeq (if c then A else B) (if c then A' else B') := by
  split
  · exact h1
  · exact h2
theorem want_congr {i j : IC} (h : ICeq i j) (k : Nat) : ICeq (wantP i k) (wantP j k) := by
  obtain ⟨iop, ia, ib, iN, iv, ilA, iln, ilc, itA, itn, itc, ibk, ibv, ibt, ibA, ibn, ibc, ieA, ien, iec⟩ := i
  obtain ⟨jop, ja, jb, jn, jv, jlA, jln, jlc, jtA, jtn, jtc, jbk, jbv, jbt, jbA, jbn, jbc, jeA, jen, jec⟩ := j
  obtain ⟨h1, h2, h3, h4, h5, h6, h7, h8, h9, h10, h11, h12⟩ := h
  simp only at h1 h2 h3 h4 h5 h6 h7 h8 h9 h10 h11 h12
  subst h1 h2 h3 h4 h5 h6 h7 h8 h9 h10 h11 h12
  unfold wantP
  repeat' (first | exact ⟨rfl, rfl, rfl, rfl, rfl, rfl, rfl, rfl, rfl, rfl, rfl, rfl⟩ | refine ICeq.ite ?_ ?_)
theorem flat_congr {i j i' j' : IC} (h : ICeq i j) (h' : ICeq i' j') (L T M S : List Nat) : flatP i L T i' M S = flatP j L T j' M S := by
  unfold flatP
  rw [h.op, h.a, h.b, h.n, h.v, h.bk, h.bv, h.bt, h'.op, h'.a, h'.b, h'.n, h'.v, h'.bk, h'.bv, h'.bt]
theorem fits_congr {i j : IC} (h : ICeq i j) (L T : List Nat) : fitsP i L T = fitsP j L T := by
  unfold fitsP
  rw [h.op]
  cases inf j.op with
  | none => rfl
  | some q =>
    simp only
    unfold fitsI okP restP
    have hw := want_congr h q.1
    rw [flat_congr hw h, hw.bn, hw.en, h.bn, h.en, h.bk, h.bv, h.bt, h.ln, h.tn]
theorem InsIs.fits {w : World} {i : IC} {x : Ins} {bd el : Fo} (h : InsIs w i x bd el) : fitsP i x.L x.T = fitsX x bd el := by
  have hl : i.ln = x.L.length := by have := h.ins.l.len; simp only [List.length_map] at this; omega
  have ht : i.tn = x.T.length := by have := h.ins.t.len; simp only [List.length_map] at this; omega
  exact fits_congr ⟨h.of.op, h.of.a, h.of.b, h.of.n, h.of.v, hl, ht, h.of.bk, h.of.bv, h.of.bt, h.body.len, h.els.len⟩ _ _
def depthSt (d : Nat) (x : Ins) (_bd _el : Fo) (deep : Nat) : Nat × Bool := ((if isBlk x.op then max d (deep + 1) else d), decide ((if isBlk x.op then max d (deep + 1) else d) ≤ 1000))
def depthP (f : Fo) : Nat := min (goF depthSt f 0 0).1 1001
def HasD (gb : Nat) (d : Nat) (w : World) : Prop := Blk w gb 3 #[.int .i64 (d : Int)] ∧ d ≤ 1000000000001
def maySt (ok : Bool) (x : Ins) (bd el : Fo) (_deep : Nat) : Bool × Bool := (ok && fitsX x bd el, ok && fitsX x bd el)
def mayP (f : Fo) : Bool := decide (depthP f ≤ 1000) && (goF maySt f 0 true).1
def HasM (gb : Nat) (ok : Bool) (w : World) : Prop := Blk w gb 4 #[.bool ok] ∧ SpTab w
set_option maxRecDepth 100000 in
set_option maxHeartbeats 3200000 in
theorem depth1_any (gb d : Nat) (x : Ins) (i : IC) (bd el : Fo) (b o deep : Nat) (w : World) (hd : HasD gb d w) (hc : CellsAt w b o i.arr) (hi : InsIs w i x bd el) (hdeep : deep < 1000000000000) :
    Calls Tryd.prog 76 #[.pointer (some ⟨b, o, none⟩), .int .i64 (deep : Int), .pointer (some ⟨gb, 0, none⟩)] w fun e w' => e = .returned (.bool (depthSt d x bd el deep).2) ∧ HasD gb (depthSt d x bd el deep).1 w' ∧ Kept (S1 gb) w w' := by
  have c0 : w.cell? ⟨b, o, none⟩ = some (.int .u16 (i.op : Int)) := hc 0 (by rw [IC.size]; decide)
  have e0 : w.cell? ⟨gb, 0, none⟩ = some (.int .i64 (d : Int)) := hd.1.cell 0
  have f0 := hd.1.frozen 0
  have HB := Lib.hid (show Calls Tryd.prog 77 #[.int .u16 (i.op : Int)] w (fun e w' => e = .returned (.bool (isBlk x.op)) ∧ w' = w) from by
    have h := isblock_any i.op w
    rw [hi.of.op] at h ⊢
    exact h)
  have HD := Lib.hid hd
  have HE := Lib.hid (show depthSt d x bd el deep = ((if isBlk x.op then max d (deep + 1) else d), decide ((if isBlk x.op then max d (deep + 1) else d) ≤ 1000)) from rfl)
  have ud : IntKind.i64.wrap ((deep : Int) + 1) = (deep : Int) + 1 := IntWalk.i64_in _ (by omega)
  have hm : max (d : Int) ((deep : Int) + 1) = ((max d (deep + 1) : Nat) : Int) := by omega
  clear hd hc hi
  cases hib : isBlk x.op with
  | true =>
    rw [hib] at HB HE
    simp only [if_true] at HE
    clear hib
    have hz : max d (deep + 1) ≤ 1000000000001 := by have := HD.out.2; omega
    have HZ := Lib.hid hz
    clear hz
    generalize max d (deep + 1) = z at *
    go_enter Tryd.func76, Tryd.ntmps76
    go_wp2_with (go_at_call 77; refine HB.out.mono ?_; rintro e w3 ⟨rfl, rfl⟩)
    go_ret
    refine ⟨ret_bool (by rw [HE.out, Bool.eq_iff_iff]; simp; omega), ?_, (Kept.refl (S1 gb) _).setCell (p := ⟨gb, 0, none⟩) (.inl rfl) _⟩
    rw [HE.out]
    exact ⟨HD.out.1.set_ 0 _, HZ.out⟩
  | false =>
    rw [hib] at HB HE
    simp only [Bool.false_eq_true, if_false] at HE
    clear hib
    go_enter Tryd.func76, Tryd.ntmps76
    go_wp2_with (go_at_call 77; refine HB.out.mono ?_; rintro e w3 ⟨rfl, rfl⟩)
    go_ret
    refine ⟨ret_bool (by rw [HE.out, Bool.eq_iff_iff]; simp; omega), ?_, Kept.refl _ _⟩
    rw [HE.out]
    exact HD.out
theorem depth_ok (gb : Nat) (w0 : World) (h0 : w0.heap.size ≤ gb) : StepOk 76 gb depthSt (HasD gb) w0 where
  ent := enters_of Tryd.func76 (by kernel_rfl) rfl
  step := fun s x i bd el b o deep w hs hc hi hk hd => depth1_any gb s x i bd el b o deep w hs hc hi hd
  keep := fun s S w w' hs hk hn _ => ⟨hk.blk hs.1 hn, hs.2⟩
  lt := fun s w hs => hs.1.lt
  old := h0
set_option maxRecDepth 100000 in
set_option maxHeartbeats 3200000 in
theorem depth_any (A : Option Addr) (n c : Nat) (f : Fo) (w : World) (hf : SlF w A n c f) (hcount : f.count ≤ 1000000000) :
    Calls Tryd.prog 50 #[.slice A n c] w fun e w' => e = .returned (.int .i64 (depthP f : Int)) ∧ Kept S0 w w' := by
  have hk1 : Kept S0 w (w.alloc (.cells #[.int .i64 0] 3)) := (Kept.refl S0 w).alloc _
  have HC := Lib.hid (each_any 76 w.heap.size depthSt (HasD w.heap.size) w (w.alloc (.cells #[.int .i64 0] 3)) (depth_ok _ w (Nat.le_refl _)) A n c f 0 hf hcount ⟨Blk.new w _ _, by decide⟩ hk1)
  have HP := Lib.hid (show depthP f = min (goF depthSt f 0 0).1 1001 from rfl)
  have HK1 := Lib.hid hk1
  clear hf hk1
  generalize goF depthSt f 0 0 = tot at *
  go_enter Tryd.func50, Tryd.ntmps50
  go_wp2_with fail
  refine HC.out.mono ?_
  rintro e w2 ⟨rfl, hd, hk2⟩
  have d0 : w2.cell? ⟨w.heap.size, 0, none⟩ = some (.int .i64 (tot.1 : Int)) := hd.1.cell 0
  have HKZ := Lib.hid (HK1.out.trans_ hk2 (fun i e => .inr (by have e' : i = w.heap.size := e; omega)))
  clear hd hk2
  have hm : min (tot.1 : Int) 1001 = ((min tot.1 1001 : Nat) : Int) := by omega
  go_wp2_with fail
  go_ret
  exact ⟨ret_int (by rw [HP.out]), HKZ.out⟩
set_option maxRecDepth 100000 in
set_option maxHeartbeats 6400000 in
theorem may1_any (gb : Nat) (ok : Bool) (x : Ins) (i : IC) (bd el : Fo) (b o deep : Nat) (w : World) (hd : HasM gb ok w) (hc : CellsAt w b o i.arr) (hi : InsIs w i x bd el) :
    Calls Tryd.prog 52 #[.pointer (some ⟨b, o, none⟩), .int .i64 (deep : Int), .pointer (some ⟨gb, 0, none⟩)] w fun e w' => e = .returned (.bool (maySt ok x bd el deep).2) ∧ HasM gb (maySt ok x bd el deep).1 w' ∧ Kept (S1 gb) w w' := by
  have e0 : w.cell? ⟨gb, 0, none⟩ = some (.bool ok) := hd.1.cell 0
  have f0 := hd.1.frozen 0
  have HD := Lib.hid hd
  have HE := Lib.hid (show maySt ok x bd el deep = (ok && fitsX x bd el, ok && fitsX x bd el) from rfl)
  have hc' : ∀ j, j < i.arr.size → w.cell? ((⟨b, o, none⟩ : Addr).add j) = i.arr[j]? := fun j hj => by rw [addr_add]; exact hc j hj
  have HCC := Lib.hid hc'
  have HF := Lib.hid (show Calls Tryd.prog 53 #[.agg i.arr] w (fun e w' => e = .returned (.bool (fitsX x bd el)) ∧ Kept S0 w w') from by
    have h := fits_any i x.L x.T w hi.ins hi.le hd.2
    rw [hi.fits] at h
    exact h)
  clear hd hc hi hc'
  cases ok with
  | true =>
    go_enter Tryd.func52, Tryd.ntmps52
    go_wp2_with (first | (refine wpList_load_cells_g (by rfl) 70 _ rfl ⟨b, o, none⟩ rfl i.arr _ HCC.out Tryd.underlying70 rfl (by kernel_rfl) ?_) | (go_at_call 53; refine HF.out.mono ?_; rintro e w3 ⟨rfl, hk3⟩; have e3 : w3.cell? ⟨gb, 0, none⟩ = some (.bool true) := (hk3.blk HD.out.1 (fun x => x)).cell 0; have f3 : w3.frozen? ⟨gb, 0, none⟩ = false := (hk3.blk HD.out.1 (fun x => x)).frozen 0))
    go_ret
    refine ⟨ret_bool (by rw [HE.out]; rfl), ?_, (hk3.of0 (S1 gb)).setCell (p := ⟨gb, 0, none⟩) (.inl rfl) _⟩
    rw [HE.out]
    exact ⟨(hk3.blk HD.out.1 (fun x => x)).set_ 0 _, (HD.out.2.kept0 hk3).kept ((Kept.refl (S1 gb) w3).setCell (p := ⟨gb, 0, none⟩) (.inl rfl) _) (fun e => by
      have e' : libR.g 0 = gb := e
      have h1 := HD.out.1.cell 0
      have h2 := HD.out.2 0 (by decide)
      rw [e'] at h2
      have h3 := h1.symm.trans h2
      cases h3)⟩
  | false =>
    go_enter Tryd.func52, Tryd.ntmps52
    go_wp2_with fail
    go_ret
    refine ⟨ret_bool (by rw [HE.out]; rfl), ?_, (Kept.refl (S1 gb) w).setCell (p := ⟨gb, 0, none⟩) (.inl rfl) _⟩
    rw [HE.out]
    exact ⟨HD.out.1.set_ 0 _, HD.out.2.kept ((Kept.refl (S1 gb) w).setCell (p := ⟨gb, 0, none⟩) (.inl rfl) _) (fun e => by
      have e' : libR.g 0 = gb := e
      have h1 := HD.out.1.cell 0
      have h2 := HD.out.2 0 (by decide)
      rw [e'] at h2
      have h3 := h1.symm.trans h2
      cases h3)⟩
theorem SpTab.lt {w : World} (h : SpTab w) : libR.g 0 < w.heap.size := World.block_lt_of_cell? _ _ (h 0 (by decide))
theorem may_ok (gb : Nat) (w0 : World) (hsp : SpTab w0) (h0 : w0.heap.size ≤ gb) : StepOk 52 gb maySt (HasM gb) w0 where
  ent := enters_of Tryd.func52 (by kernel_rfl) rfl
  step := fun s x i bd el b o deep w hs hc hi _ _ => may1_any gb s x i bd el b o deep w hs hc hi
  keep := fun s S w w' hs hk hn hS => ⟨hk.blk hs.1 hn, hs.2.kept hk (fun e => by have := hS _ e; have := hsp.lt; omega)⟩
  lt := fun s w hs => hs.1.lt
  old := h0
set_option maxRecDepth 100000 in
set_option maxHeartbeats 3200000 in
theorem may_any (A : Option Addr) (n c : Nat) (f : Fo) (w : World) (hf : SlF w A n c f) (hcount : f.count ≤ 1000000000) (hsp : SpTab w) :
    Calls Tryd.prog 35 #[.slice A n c] w fun e w' => e = .returned (.bool (mayP f)) ∧ Kept S0 w w' := by
  have HD := Lib.hid (depth_any A n c f w hf hcount)
  have HP := Lib.hid (show mayP f = (decide (depthP f ≤ 1000) && (goF maySt f 0 true).1) from rfl)
  have HF := Lib.hid hf
  have HSP := Lib.hid hsp
  clear hf hsp
  generalize depthP f = dp at *
  by_cases hd : dp ≤ 1000
  · have hdi : decide ((dp : Int) ≤ 1000) = true := decide_eq_true (by omega)
    have HDD := Lib.hid hd
    clear hd
    go_enter Tryd.func35, Tryd.ntmps35
    go_wp2_with fail
    refine HD.out.mono ?_
    rintro e w1 ⟨rfl, hk1⟩
    have hk2 : Kept S0 w (w1.alloc (.cells #[.bool true] 4)) := hk1.alloc _
    have HC := Lib.hid (each_any 52 w1.heap.size maySt (HasM w1.heap.size) w (w1.alloc (.cells #[.bool true] 4)) (may_ok _ w HSP.out hk1.size) A n c f true HF.out hcount ⟨Blk.new w1 _ _, HSP.out.kept0 hk2⟩ hk2)
    have HK2 := Lib.hid hk2
    have HKS := Lib.hid hk1.size
    clear hk1 hk2
    generalize goF maySt f 0 true = tot at *
    go_wp2_with fail
    refine HC.out.mono ?_
    rintro e w2 ⟨rfl, hm, hk3⟩
    have d0 : w2.cell? ⟨w1.heap.size, 0, none⟩ = some (.bool tot.1) := hm.1.cell 0
    have HKZ := Lib.hid (HK2.out.trans_ hk3 (fun i e => .inr (by have e' : i = w1.heap.size := e; have := HKS.out; omega)))
    clear hm hk3
    go_wp2_with fail
    go_ret
    exact ⟨ret_bool (by rw [HP.out, decide_eq_true HDD.out, Bool.true_and]), HKZ.out⟩
  · have hdi : decide ((dp : Int) ≤ 1000) = false := decide_eq_false (by omega)
    have HDD := Lib.hid hd
    clear hd
    go_enter Tryd.func35, Tryd.ntmps35
    go_wp2_with fail
    refine HD.out.mono ?_
    rintro e w1 ⟨rfl, hk1⟩
    go_wp2_with fail
    go_ret
    exact ⟨ret_bool (by rw [HP.out, decide_eq_false HDD.out, Bool.false_and]), hk1.alloc _⟩
end Go.Proofs.YtfmblalbcodpmaaDoor
namespace Go.Proofs.YtfmblalbcodpmaaDoor
open Go.RowKit
/-- A function's type: what it takes, what it leaves. -/
abbrev FTy := List Nat × List Nat
/-- A context. -/
structure CtxP where
  types : List FTy
  funcs : List FTy
  tables : List (Nat × Nat × Nat × Bool)
  mems : List (Nat × Nat × Bool)
  globals : List (Nat × Bool)
  elems : List Nat
  datas : Int
  refs : List Nat
  locals : List (Nat × Nat)
  results : List Nat
  fixed : Int
/-- Its cells. -/
structure CC where
  tyA : Option Addr
  tyn : Nat
  tyc : Nat
  fuA : Option Addr
  fun_ : Nat
  fuc : Nat
  taA : Option Addr
  tan : Nat
  tac : Nat
  meA : Option Addr
  men : Nat
  mec : Nat
  glA : Option Addr
  gln : Nat
  glc : Nat
  elA : Option Addr
  eln : Nat
  elc : Nat
  datas : Int
  reA : Option Addr
  ren : Nat
  rec_ : Nat
  loA : Option Addr
  lon : Nat
  loc : Nat
  rsA : Option Addr
  rsn : Nat
  rsc : Nat
  fixed : Int
def CC.arr (c : CC) : Array Value := #[.slice c.tyA c.tyn c.tyc, .slice c.fuA c.fun_ c.fuc, .slice c.taA c.tan c.tac, .slice c.meA c.men c.mec, .slice c.glA c.gln c.glc, .slice c.elA c.eln c.elc, .int .i64 c.datas, .slice c.reA c.ren c.rec_, .slice c.loA c.lon c.loc, .slice c.rsA c.rsn c.rsc, .int .i64 c.fixed]
/-- A list of functions' types. -/
structure SlFT (w : World) (A : Option Addr) (n c : Nat) (l : List FTy) : Prop where
  len : n = l.length
  le : n ≤ c
  cm : c ≤ maxLen
  at_ : 0 < n → ∃ b o, A = some ⟨b, o, none⟩ ∧ ∀ k p, l[k]? = some p → ∃ pA pn pc rA rn rc, w.cell? ⟨b, o + k * 2, none⟩ = some (.slice pA pn pc) ∧ w.cell? ⟨b, o + k * 2 + 1, none⟩ = some (.slice rA rn rc) ∧ SlL w 1 pA pn pc (p.1.map nV) ∧ SlL w 1 rA rn rc (p.2.map nV) ∧ pn ≤ 140737488355328 ∧ rn ≤ 140737488355328
def limC (x : Nat × Nat × Bool) : List Value := [.int .u32 (x.1 : Int), .int .u32 (x.2.1 : Int), .bool x.2.2]
def tabC (x : Nat × Nat × Nat × Bool) : List Value := .int .u8 (x.1 : Int) :: limC x.2
def globC (x : Nat × Bool) : List Value := [.int .u8 (x.1 : Int), .bool x.2]
def locC (x : Nat × Nat) : List Value := [.int .u32 (x.1 : Int), .int .u8 (x.2 : Int)]
/-- A context that lies in memory. -/
structure CtxAt (w : World) (c : CC) (p : CtxP) : Prop where
  types : SlFT w c.tyA c.tyn c.tyc p.types
  funcs : SlFT w c.fuA c.fun_ c.fuc p.funcs
  tables : SlL w 4 c.taA c.tan c.tac (p.tables.flatMap tabC)
  mems : SlL w 3 c.meA c.men c.mec (p.mems.flatMap limC)
  globals : SlL w 2 c.glA c.gln c.glc (p.globals.flatMap globC)
  elems : SlL w 1 c.elA c.eln c.elc (p.elems.map nV)
  datas : c.datas = p.datas
  refs : SlL w 1 c.reA c.ren c.rec_ (p.refs.map nV32)
  locals : SlL w 2 c.loA c.lon c.loc (p.locals.flatMap locC)
  results : SlL w 1 c.rsA c.rsn c.rsc (p.results.map nV)
  fixed : c.fixed = p.fixed
  locok : ∀ q ∈ p.locals, q.1 < 4294967296 ∧ q.2 < 256
  le : p.types.length ≤ 140737488355328 ∧ p.funcs.length ≤ 140737488355328 ∧ p.tables.length ≤ 140737488355328 ∧ p.mems.length ≤ 140737488355328 ∧ p.globals.length ≤ 140737488355328 ∧ p.elems.length ≤ 140737488355328 ∧ p.refs.length ≤ 140737488355328 ∧ p.locals.length ≤ 140737488355328 ∧ p.results.length ≤ 140737488355328
theorem flat_len {α : Type} (f : α → List Value) (k : Nat) (hf : ∀ x, (f x).length = k) : ∀ l : List α, (l.flatMap f).length = l.length * k
  | [] => by simp
  | x :: r => by rw [List.flatMap_cons, List.length_append, hf, flat_len f k hf r, List.length_cons, Nat.add_mul]; omega
theorem flat_get {α : Type} (f : α → List Value) (k : Nat) (hf : ∀ x, (f x).length = k) : ∀ (l : List α) (i : Nat) (x : α), l[i]? = some x → ∀ j, j < k → (l.flatMap f)[i * k + j]? = (f x)[j]?
  | [], i, x, h => by simp at h
  | y :: r, 0, x, h => by
    simp only [List.getElem?_cons_zero, Option.some.injEq] at h
    subst h
    intro j hj
    rw [List.flatMap_cons, Nat.zero_mul, Nat.zero_add, List.getElem?_append_left (by rw [hf]; exact hj)]
  | y :: r, i + 1, x, h => by
    simp only [List.getElem?_cons_succ] at h
    intro j hj
    rw [List.flatMap_cons, List.getElem?_append_right (by rw [hf, Nat.add_mul]; omega), hf, show (i + 1) * k + j - k = i * k + j by rw [Nat.add_mul]; omega]
    exact flat_get f k hf r i x h j hj
def localP : List (Nat × Nat) → Nat → Option Nat
  | [], _ => none
  | (N, t) :: r, n => if n < N then some t else localP r (n - N)
theorem localP_drop {l : List (Nat × Nat)} {k n : Nat} {q : Nat × Nat} (h : l[k]? = some q) : localP (l.drop k) n = if n < q.1 then some q.2 else localP (l.drop (k + 1)) (n - q.1) := by
  have hk := (List.getElem?_eq_some_iff.1 h).1
  have he := (List.getElem?_eq_some_iff.1 h).2
  rw [List.drop_eq_getElem_cons hk, he]
  obtain ⟨a, b⟩ := q
  rfl
/-- What Local answers. -/
def localRet (o : Option Nat) : Value := match o with | some t => .tuple #[.int .u8 (t : Int), .int .i64 0] | none => .tuple #[.int .u8 0, .int .i64 5]
set_option maxRecDepth 100000 in
set_option maxHeartbeats 3200000 in
theorem local_any (A : Option Addr) (m c : Nat) (l : List (Nat × Nat)) (n : Nat) (w : World) (hl : SlL w 2 A m c (l.flatMap locC)) (hok : ∀ q ∈ l, q.1 < 4294967296 ∧ q.2 < 256) (hn : n < 4294967296) (hm : m ≤ 9223372036854775806) :
    Calls Tryd.prog 14 #[.slice A m c, .int .u32 (n : Int)] w fun e w' => e = .returned (localRet (localP l n)) ∧ Kept S0 w w' := by
  have hlen : l.length = m := by have := hl.len; rw [flat_len locC 2 (fun _ => rfl)] at this; omega
  have HL := Lib.hid hl
  have HN := Lib.hid hlen
  have HOK := Lib.hid hok
  have u0 : IntKind.u64.wrap (n : Int) = (n : Int) := by rw [IntKind.wrap_u64]; omega
  clear hl hlen hok
  go_enter Tryd.func14, Tryd.ntmps14
  go_wp2_with fail
  go_loopw [6, 13] (fun v i wr => ∃ (k r : Nat), k ≤ m ∧ r < 4294967296 ∧ v = .int .u64 (r : Int) ∧ i = .int .i64 (k : Int) ∧ Kept S0 w wr ∧ localP (l.drop k) r = localP l n) (fun _ i _ => m + 1 - (intOf i).toNat)
  case atStart => exact ⟨0, n, Nat.zero_le _, hn, rfl, rfl, Kept.refl _ _, rfl⟩
  case round =>
    obtain ⟨k, r, hk, hr, rfl, rfl, hkr, hlo⟩ := hrel
    have HK := Lib.hid hkr
    have HLO := Lib.hid hlo
    clear hkr hlo
    by_cases hlt : k < m
    · obtain ⟨q, hq⟩ : ∃ q, l[k]? = some q := ⟨_, List.getElem?_eq_getElem (by have := HN.out; omega)⟩
      have hqo := HOK.out q (List.mem_of_getElem? hq)
      obtain ⟨b, o, rfl, hc⟩ := (HL.out.kept0 HK.out).at (by omega)
      have d0 : wr.cell? ⟨b, o + k * 2, none⟩ = some (.int .u32 (q.1 : Int)) := hc (k * 2) _ (by have h := flat_get locC 2 (fun _ => rfl) l k q hq 0 (by omega); rw [Nat.add_zero] at h; rw [h]; rfl)
      have d1 : wr.cell? ⟨b, o + k * 2 + 1, none⟩ = some (.int .u8 (q.2 : Int)) := by
        have h9 := hc (k * 2 + 1) _ (by have h := flat_get locC 2 (fun _ => rfl) l k q hq 1 (by omega); rw [h]; rfl)
        rw [← Nat.add_assoc] at h9
        exact h9
      have HD := Lib.hid (localP_drop (n := r) hq)
      obtain ⟨qn, qt⟩ := q
      simp only at *
      have u1 : IntKind.u64.wrap (qn : Int) = (qn : Int) := by rw [IntKind.wrap_u64]; omega
      have hlti : (k : Int) < (m : Int) := by omega
      have HKA := Lib.hid (HK.out.alloc (.cells #[.int .u32 (qn : Int), .int .u8 (qt : Int)] 84))
      clear hq hc
      by_cases hrq : r < qn
      · have hi : (r : Int) < (qn : Int) := by omega
        have HF := Lib.hid (HLO.out.symm.trans (HD.out.trans (if_pos hrq)))
        go_wp2_with fail
        go_ret2
        exact ⟨by rw [HF.out]; rfl, HKA.out⟩
      · have hi : ¬ (r : Int) < (qn : Int) := by omega
        have HF := Lib.hid ((HD.out.trans (if_neg hrq)).symm.trans HLO.out)
        have us : IntKind.u64.wrap ((r : Int) - (qn : Int)) = ((r - qn : Nat) : Int) := by rw [IntKind.wrap_u64]; omega
        obtain ⟨z, hz⟩ : ∃ z, r - qn = z := ⟨_, rfl⟩
        rw [hz] at us HF
        have hzl : z < 4294967296 := by omega
        clear hz
        go_wp2_with fail
        go_roundw
        case rel => exact ⟨k + 1, z, by omega, hzl, rfl, by go_num, HKA.out, HF.out⟩
        case measure => simp [intOf]; omega
    · have hall : localP l n = none := by
        have h := HLO.out
        rw [List.drop_eq_nil_of_le (by have := HN.out; omega)] at h
        exact h.symm
      have HA := Lib.hid hall
      clear hall
      go_wp2_with fail
      go_ret2
      exact ⟨by rw [HA.out]; rfl, HK.out⟩
end Go.Proofs.YtfmblalbcodpmaaDoor
namespace Go.Proofs.YtfmblalbcodpmaaDoor
open Go.ChangeShapes Go.WideShapes Go.ChangeAt Go.RowKit Go.Joins
section
variable {H : Type} {enc : TypeId × Value → H} {P : Program}
theorem trodAll_stays (hl : laidOutB P = true) {W W' : World} (hb : Below W.heap.size W W') : ∀ (ts : List TypeId), (∀ t ∈ ts, P.readableRec t = true ∧ t < P.types.size) → ∀ {vs : List Value} {ds : List (DataW H)} {ps : List MemPlace},
    DataW.TrodAll enc P W 0 (fun _ => true) true ts vs ds ps → (∀ x ∈ ps, x.block < W.heap.size) → ∀ {sp : Nat → Bool}, (∀ x ∈ ps, sp x.block = true) → DataW.TrodAll enc P W' 0 sp true ts vs ds ps
  | [], _, vs, ds, ps, h, _, sp, _ => by
    obtain ⟨rfl, rfl, rfl⟩ := trodAll_nil h
    exact rfl
  | t :: ts, ht, vs, ds, ps, h, hlt, sp, hsp => by
    obtain ⟨v, vs', d, ds', p, q, rfl, rfl, rfl, hd, hrest⟩ := trodAll_cons h
    obtain ⟨hr, hrow⟩ := ht t (List.mem_cons_self ..)
    have h1 := WideElems.Trod_stays (sp' := sp) hl hr hrow hd (fun x hx => hb.same (hlt x (List.mem_append_left _ hx))) (fun x hx => hsp x (List.mem_append_left _ hx))
    have h2 := trodAll_stays hl hb ts (fun t' ht' => ht t' (List.mem_cons_of_mem _ ht')) hrest (fun x hx => hlt x (List.mem_append_right _ hx)) (sp := sp) (fun x hx => hsp x (List.mem_append_right _ hx))
    exact trodAll_cons_mk h1 h2
/-- The post of a law: true, all arguments as they were. -/
theorem post_law {f : Func} {s : ChangeSpec} {apart fresh handsOn : Bool} {W W' : World} {args : Array Value} {ds gs : List (DataW H)} {before : List MemPlace} {tb : TypeId}
    (hl : laidOutB P = true) (hts : ∀ t ∈ f.params.toList, P.readableRec t = true ∧ t < P.types.size)
    (hW : DataW.Whole enc P f.params.toList s.vars apart W args.toList ds gs before) (hvars : s.vars = []) (hbool : P.underlying tb = some .bool) (hrt : f.resultTypes = #[tb])
    (hfn : s.fn H (ds ++ gs) = { results := [.lit (.bool true)], args := ds }) (hb : Below W.heap.size W W') :
    s.post enc P f apart fresh handsOn false W args (.bool true) W' := by
  have hlt : ∀ p ∈ before, p.block < W.heap.size := fun p hp => hW.lt p hp
  have hold : ∀ p ∈ before, (fun b => decide (b < W.heap.size)) p.block = true := fun p hp => by simpa using hlt p hp
  have hW2 := hW
  obtain ⟨p, q, hA, hV, rfl, _, _⟩ := hW2
  have hq : gs = [] ∧ q = [] := by
    rw [hvars] at hV
    exact trodVars_none hV
  obtain ⟨rfl, rfl⟩ := hq
  rw [List.append_nil] at hW hlt hold
  refine ⟨ds, [], p, [], p, [], hW, ?_, ?_, ?_, World.keptBut_mono (fun x hx => ⟨hx, .inr (by simpa using hx)⟩) (hb.frame (· ∈ p)), fun h => by cases h⟩
  · rw [hfn, hrt]
    exact trodAll_mk1 (shut_bool hbool true)
  · rw [hfn]
    exact trodAll_stays hl hb _ hts hA hlt hold
  · rw [hfn, hvars]
    exact rfl
end
theorem bounds_u8 {x : Int} (h : (Lit.int .u8 x).wf = true) : 0 ≤ x ∧ x ≤ 255 := by simpa [Lit.wf, IntKind.min, IntKind.max, IntKind.signed, IntKind.bits] using h
theorem bounds_u32 {x : Int} (h : (Lit.int .u32 x).wf = true) : 0 ≤ x ∧ x ≤ 4294967295 := by simpa [Lit.wf, IntKind.min, IntKind.max, IntKind.signed, IntKind.bits] using h
theorem bounds_i64 {x : Int} (h : (Lit.int .i64 x).wf = true) : -9223372036854775808 ≤ x ∧ x ≤ 9223372036854775807 := by simpa [Lit.wf, IntKind.min, IntKind.max, IntKind.signed, IntKind.bits] using h
end Go.Proofs.YtfmblalbcodpmaaDoor
namespace Go.Proofs.YtfmblalbcodpmaaDoor
open Go.ChangeShapes Go.WideShapes Go.ChangeAt Go.RowKit Go.Joins
/-- Cells that read at a type; the weights are among those of the whole. -/
def Rd {H : Type} (enc : TypeId × Value → H) (W : World) (t : TypeId) (cs : List Value) (ws : List Nat) : Prop :=
  ∃ (k : Nat) (y : DataW H × List MemPlace), DataW.trod enc Tryd.prog W 0 (fun _ => true) true k t cs = some y ∧ ∀ q ∈ y.1.weights Tryd.prog t, q ∈ ws
section
variable {H : Type} {enc : TypeId × Value → H} {W : World} {ws : List Nat} {cs : List Value}
theorem rd_int {t : TypeId} {k : IntKind} (ht : Tryd.prog.underlying t = some (.int k)) (h : Rd enc W t cs ws) : ∃ n, cs = [.int k n] ∧ (Lit.int k n).wf = true := by
  obtain ⟨f, y, h, _⟩ := h
  obtain ⟨n, e, _, hw⟩ := DataW.trod_int ht h
  exact ⟨n, e, hw⟩
theorem rd_bool {t : TypeId} (ht : Tryd.prog.underlying t = some .bool) (h : Rd enc W t cs ws) : ∃ b, cs = [.bool b] := by
  obtain ⟨f, y, h, _⟩ := h
  obtain ⟨b, e, _⟩ := DataW.trod_bool ht h
  exact ⟨b, e⟩
theorem rd_slice_shape {t e : TypeId} (ht : Tryd.prog.underlying t = some (.slice e)) (h : Rd enc W t cs ws) : ∃ A n c, cs = [.slice A n c] := by
  obtain ⟨f, y, h, _⟩ := h
  rcases DataW.trod_slice ht h with ⟨h0, _⟩ | ⟨ad, len, cap, _, _, _, _, h0, _⟩
  · exact ⟨none, 0, 0, h0⟩
  · exact ⟨some ad, len, cap, h0⟩
theorem weights_all_mem {e : TypeId} : ∀ {l : List (DataW H)} {d : DataW H}, d ∈ l → ∀ q ∈ d.weights Tryd.prog e, q ∈ DataW.weightsAll Tryd.prog e l
  | a :: r, d, hd, q, hq => by
    unfold DataW.weightsAll
    rw [List.mem_append]
    rcases List.mem_cons.1 hd with rfl | hd
    · exact .inl hq
    · exact .inr (weights_all_mem hd q hq)
/-- A slice that came in: its elements read. -/
structure RdSl (enc : TypeId × Value → H) (W : World) (e sz bytes : Nat) (A : Option Addr) (n c : Nat) (ws : List Nat) : Prop where
  le : n ≤ c
  cm : c ≤ maxLen
  z : A = none → c = 0
  wt : (∀ q ∈ ws, q ≤ reachBytes) → n * bytes ≤ 140737488351232
  el : 0 < n → ∃ b o, A = some ⟨b, o, none⟩ ∧ ∀ i, i < n → ∃ cs : List Value, cs.length = sz ∧ (∀ j, j < sz → W.cell? ⟨b, o + i * sz + j, none⟩ = cs[j]?) ∧ Rd enc W e cs ws
theorem rd_slice {t e sz bytes : Nat} {A : Option Addr} {n c : Nat} (ht : Tryd.prog.underlying t = some (.slice e)) (hsz : Tryd.prog.cellsOf e = sz) (hby : Tryd.prog.bytesOf e = bytes) (h0 : 0 < sz)
    (h : Rd enc W t [.slice A n c] ws) : RdSl enc W e sz bytes A n c ws := by
  obtain ⟨f, y, h, hws⟩ := h
  subst hsz hby
  rcases DataW.trod_slice ht h with ⟨h1, _⟩ | ⟨ad, len, cap, elems, rest, k, _, h1, hy, _, hle, hm, hlen, hel, _, _⟩
  · simp only [List.cons.injEq, and_true] at h1
    cases h1
    exact ⟨Nat.le_refl _, Nat.zero_le _, fun _ => rfl, fun _ => by omega, fun h => absurd h (by omega)⟩
  · simp only [List.cons.injEq, and_true] at h1
    cases h1
    have hyw : y.1.weights Tryd.prog t = ((elems.map (·.1)).length + (rest.map (·.1)).length) * Tryd.prog.bytesOf e :: (DataW.weightsAll Tryd.prog e (elems.map (·.1)) ++ DataW.weightsAll Tryd.prog e (rest.map (·.1))) := by
      rw [hy]; simp [DataW.weights, ht]
    refine ⟨hle, hm, (fun h => by cases h), fun hw => ?_, fun hpos => ?_⟩
    · have h2 := hw _ (hws _ (by rw [hyw]; exact List.mem_cons_self ..))
      simp only [List.length_map, hlen, reachBytes] at h2
      rw [Nat.add_mul] at h2
      omega
    · have hcells : ∀ i, i < n → ∃ cs, W.cells? 0 (ad.add (i * Tryd.prog.cellsOf e)) (Tryd.prog.cellsOf e) = some cs ∧ ∃ z, z ∈ elems ∧ DataW.trod enc Tryd.prog W 0 (fun _ => true) true k e cs = some z := fun i hi => by
        have hz := hel i hi
        have hzi : i < elems.length := by omega
        rw [List.getElem?_eq_getElem hzi, Option.bind_eq_some_iff] at hz
        obtain ⟨cs, hcs, htr⟩ := hz
        exact ⟨cs, hcs, _, List.getElem_mem hzi, htr⟩
      obtain ⟨b, off, spot⟩ := ad
      have hspot : spot = Option.none := by
        obtain ⟨cs, hcs, _⟩ := hcells 0 hpos
        obtain ⟨_, hl, hcc⟩ := World.cells?_some hcs
        have hc0 := hcc 0 h0
        have h3 : 0 < cs.length := by omega
        rw [List.getElem?_eq_getElem h3] at hc0
        simpa [Addr.add] using World.cell?_spot hc0
      subst hspot
      refine ⟨b, off, rfl, fun i hi => ?_⟩
      obtain ⟨cs, hcs, z, hz, htr⟩ := hcells i hi
      obtain ⟨_, hl, hcc⟩ := World.cells?_some hcs
      refine ⟨cs, hl, fun j hj => ?_, k, z, htr, fun q hq => hws q ?_⟩
      · have h4 := hcc j hj
        rw [add_plain, add_plain] at h4
        exact h4
      · rw [hyw]
        exact List.mem_cons_of_mem _ (List.mem_append_left _ (weights_all_mem (List.mem_map.2 ⟨z, hz, rfl⟩) q hq))
/-- A struct's part. -/
theorem rd_part {t : TypeId} {fs : Array Field} {x : DataW H × List MemPlace} {xs : List (DataW H × List MemPlace)} (ht : Tryd.prog.underlying t = some (.struct fs)) (hx : x = (.agg (xs.map (·.1)), xs.flatMap (·.2)))
    (hws : ∀ q ∈ x.1.weights Tryd.prog t, q ∈ ws) {k i : Nat} {f : Field} (hf : fs[i]? = some f) {cs : List Value} {y : DataW H × List MemPlace} (hy : xs[i]? = some y) (h : DataW.trod enc Tryd.prog W 0 (fun _ => true) true k f.type cs = some y) : Rd enc W f.type cs ws := by
  refine ⟨k, y, h, fun q hq => hws q ?_⟩
  have e : x.1.weights Tryd.prog t = DataW.weightsEach Tryd.prog (fs.toList.map (·.type)) (xs.map (·.1)) := by
    rw [hx]; simp [DataW.weights, ht]
  rw [e]
  exact DataW.weights_mem_each (j := i) (t := f.type) (d := y.1) (by simp [hf]) (by simp [hy]) q hq
theorem rd_struct {t : TypeId} {fs : Array Field} {n : Nat} (ht : Tryd.prog.underlying t = some (.struct fs)) (hn : Tryd.prog.cellsOf t = n) (h : Rd enc W t cs ws) :
    cs.length = n ∧ ∀ (i : Nat) (f : Field), fs[i]? = some f → Rd enc W f.type ((cs.drop f.offset).take (Tryd.prog.cellsOf f.type)) ws := by
  subst hn
  obtain ⟨k, x, h, hws⟩ := h
  obtain ⟨xs, m, _, hx, hl, hxl, hf⟩ := DataW.trod_struct ht h
  refine ⟨hl, fun i f hi => ?_⟩
  have hlt : i < xs.length := by rw [hxl]; exact (Array.getElem?_eq_some_iff.1 hi).1
  exact rd_part ht hx hws hi (List.getElem?_eq_getElem hlt) ((hf i f hi).trans (List.getElem?_eq_getElem hlt))
theorem rd_params {ts2 : List TypeId} {gs : List (DataW H)} : ∀ {ts : List TypeId} {vs : List Value} {ds : List (DataW H)} {ps : List MemPlace}, DataW.TrodAll enc Tryd.prog W 0 (fun _ => true) true ts vs ds ps →
    ∀ (j : Nat) (t : TypeId) (v : Value), ts[j]? = some t → vs[j]? = some v → Rd enc W t v.cells.toList (DataW.weightsEach Tryd.prog (ts ++ ts2) (ds ++ gs))
  | [], vs, ds, ps, h, j, t, v, ht, _ => by simp at ht
  | t0 :: ts, vs, ds, ps, h, j, t, v, ht, hv => by
    obtain ⟨v0, vs0, d0, ds0, p0, q0, rfl, rfl, rfl, h0, r0⟩ := trodAll_cons h
    cases j with
    | zero =>
      simp only [List.getElem?_cons_zero, Option.some.injEq] at ht hv
      subst ht hv
      obtain ⟨k, hk⟩ := h0
      exact ⟨k, _, hk, fun q hq => by
        rw [List.cons_append, List.cons_append, DataW.weightsEach]
        exact List.mem_append_left _ hq⟩
    | succ j =>
      simp only [List.getElem?_cons_succ] at ht hv
      obtain ⟨k, y, h1, h2⟩ := rd_params (ts2 := ts2) (gs := gs) r0 j t v ht hv
      exact ⟨k, y, h1, fun q hq => by
        rw [List.cons_append, List.cons_append, DataW.weightsEach]
        exact List.mem_append_right _ (h2 q hq)⟩
end
end Go.Proofs.YtfmblalbcodpmaaDoor
namespace Go.Proofs.YtfmblalbcodpmaaDoor
open Go.ChangeShapes Go.WideShapes Go.ChangeAt Go.RowKit Go.Joins
section
variable {H : Type} {enc : TypeId × Value → H} {W : World} {ws : List Nat}
theorem rd_u8 {t : TypeId} {cs : List Value} (ht : Tryd.prog.underlying t = some (.int .u8)) (h : Rd enc W t cs ws) : ∃ n : Nat, cs = [.int .u8 (n : Int)] ∧ n < 256 := by
  obtain ⟨n, e, hw⟩ := rd_int ht h
  have hb := bounds_u8 hw
  obtain ⟨m, rfl⟩ : ∃ m : Nat, n = (m : Int) := ⟨n.toNat, by omega⟩
  exact ⟨m, e, by omega⟩
theorem rd_u32 {t : TypeId} {cs : List Value} (ht : Tryd.prog.underlying t = some (.int .u32)) (h : Rd enc W t cs ws) : ∃ n : Nat, cs = [.int .u32 (n : Int)] ∧ n < 4294967296 := by
  obtain ⟨n, e, hw⟩ := rd_int ht h
  have hb := bounds_u32 hw
  obtain ⟨m, rfl⟩ : ∃ m : Nat, n = (m : Int) := ⟨n.toNat, by omega⟩
  exact ⟨m, e, by omega⟩
theorem list_of {α : Type} {Q : Nat → α → Prop} : ∀ (n : Nat), (∀ i, i < n → ∃ x, Q i x) → ∃ l : List α, l.length = n ∧ ∀ i x, l[i]? = some x → Q i x
  | 0, _ => ⟨[], rfl, fun i x h => by simp at h⟩
  | n + 1, h => by
    obtain ⟨l, hl, hq⟩ := list_of n (fun i hi => h i (by omega))
    obtain ⟨x, hx⟩ := h n (Nat.lt_succ_self _)
    refine ⟨l ++ [x], by simp [hl], fun i y hy => ?_⟩
    by_cases hi : i < n
    · rw [List.getElem?_append_left (by omega)] at hy
      exact hq i y hy
    · have h2 : i = n := by
        have := (List.getElem?_eq_some_iff.1 hy).1
        simp at this
        omega
      subst h2
      rw [← hl, List.getElem?_concat_length] at hy
      cases hy
      exact hx
/-- A list whose elements are known by their cells. -/
theorem rd_list {α : Type} {e sz bytes : Nat} {A : Option Addr} {n c : Nat} (f : α → List Value) (hf : ∀ x, (f x).length = sz) (P : α → Prop) (hel : ∀ cs, Rd enc W e cs ws → ∃ x, cs = f x ∧ P x) (hs : RdSl enc W e sz bytes A n c ws) :
    ∃ l : List α, l.length = n ∧ SlL W sz A n c (l.flatMap f) ∧ ∀ x ∈ l, P x := by
  by_cases h0 : n = 0
  · subst h0
    exact ⟨[], rfl, ⟨by simp, fun h => absurd h (by omega), fun e => ⟨rfl, hs.z e⟩, hs.le, hs.cm⟩, by simp⟩
  obtain ⟨b, o, rfl, he⟩ := hs.el (by omega)
  obtain ⟨l, hl, hq⟩ := list_of (Q := fun i x => (∀ j, j < sz → W.cell? ⟨b, o + i * sz + j, none⟩ = (f x)[j]?) ∧ P x) n (fun i hi => by
    obtain ⟨cs, _, hc, hr⟩ := he i hi
    obtain ⟨x, rfl, hp⟩ := hel cs hr
    exact ⟨x, hc, hp⟩)
  have hfl := flat_len f sz hf l
  refine ⟨l, hl, ⟨by rw [hfl, hl], fun _ => ⟨b, o, rfl, fun i hi => ?_⟩, fun e => (by cases e), hs.le, hs.cm⟩, fun x hx => ?_⟩
  · have hsz : 0 < sz := by
      rcases Nat.eq_zero_or_pos sz with h | h
      · rw [h] at hi; simp at hi
      · exact h
    have hk : i / sz < n := Nat.div_lt_of_lt_mul (by rw [Nat.mul_comm]; exact hi)
    obtain ⟨x, hx⟩ : ∃ x, l[i / sz]? = some x := ⟨_, List.getElem?_eq_getElem (by omega)⟩
    have h1 := (hq _ x hx).1 (i % sz) (Nat.mod_lt _ hsz)
    have h2 := flat_get f sz hf l _ x hx (i % sz) (Nat.mod_lt _ hsz)
    have h3 : i / sz * sz + i % sz = i := by rw [Nat.mul_comm]; exact Nat.div_add_mod i sz
    rw [Nat.add_assoc, h3] at h1
    rw [h3] at h2
    obtain ⟨u, hu⟩ : ∃ u, (f x)[i % sz]? = some u := ⟨_, List.getElem?_eq_getElem (by rw [hf]; exact Nat.mod_lt _ hsz)⟩
    rw [hu] at h1 h2
    rw [h1, ofL_get h2]
  · obtain ⟨i, hi⟩ := List.mem_iff_getElem?.1 hx
    exact (hq i x hi).2
set_option maxRecDepth 100000 in
set_option maxHeartbeats 1600000 in
theorem dec_FT {cs : List Value} (h : Rd enc W 59 cs ws) : ∃ (p_A : Option Addr) (p_n p_c : Nat) (r_A : Option Addr) (r_n r_c : Nat), cs = [.slice p_A p_n p_c, .slice r_A r_n r_c] ∧ Rd enc W 26 [.slice p_A p_n p_c] ws ∧ Rd enc W 26 [.slice r_A r_n r_c] ws := by
  obtain ⟨hl, hf⟩ := rd_struct (n := 2) Tryd.underlying59 (by kernel_rfl) h
  match cs, hl with
  | [k0, k1], _ =>
    have g0 : Rd enc W 26 [k0] ws := by
      have h : Rd enc W 26 (([k0, k1].drop 0).take (Tryd.prog.cellsOf 26)) ws := hf 0 _ rfl
      rw [show Tryd.prog.cellsOf 26 = 1 from by kernel_rfl] at h
      exact h
    obtain ⟨p_A, p_n, p_c, e0⟩ := rd_slice_shape Tryd.underlying26 g0
    rw [e0] at g0
    have g1 : Rd enc W 26 [k1] ws := by
      have h : Rd enc W 26 (([k0, k1].drop 1).take (Tryd.prog.cellsOf 26)) ws := hf 1 _ rfl
      rw [show Tryd.prog.cellsOf 26 = 1 from by kernel_rfl] at h
      exact h
    obtain ⟨r_A, r_n, r_c, e1⟩ := rd_slice_shape Tryd.underlying26 g1
    rw [e1] at g1
    simp only [List.cons.injEq, and_true] at e0 e1
    refine ⟨p_A, p_n, p_c, r_A, r_n, r_c, ?_, g0, g1⟩
    simp [e0, e1]
set_option maxRecDepth 100000 in
set_option maxHeartbeats 1600000 in
theorem dec_LIM {cs : List Value} (h : Rd enc W 166 cs ws) : ∃ (mn : Nat) (mx : Nat) (bd : Bool), cs = [.int .u32 (mn : Int), .int .u32 (mx : Int), .bool bd] ∧ mn < 4294967296 ∧ mx < 4294967296 := by
  obtain ⟨hl, hf⟩ := rd_struct (n := 3) Tryd.underlying166 (by kernel_rfl) h
  match cs, hl with
  | [k0, k1, k2], _ =>
    have g0 : Rd enc W 41 [k0] ws := by
      have h : Rd enc W 41 (([k0, k1, k2].drop 0).take (Tryd.prog.cellsOf 41)) ws := hf 0 _ rfl
      rw [show Tryd.prog.cellsOf 41 = 1 from by kernel_rfl] at h
      exact h
    obtain ⟨mn, e0, p0⟩ := rd_u32 Tryd.underlying41 g0
    have g1 : Rd enc W 41 [k1] ws := by
      have h : Rd enc W 41 (([k0, k1, k2].drop 1).take (Tryd.prog.cellsOf 41)) ws := hf 1 _ rfl
      rw [show Tryd.prog.cellsOf 41 = 1 from by kernel_rfl] at h
      exact h
    obtain ⟨mx, e1, p1⟩ := rd_u32 Tryd.underlying41 g1
    have g2 : Rd enc W 4 [k2] ws := by
      have h : Rd enc W 4 (([k0, k1, k2].drop 2).take (Tryd.prog.cellsOf 4)) ws := hf 2 _ rfl
      rw [show Tryd.prog.cellsOf 4 = 1 from by kernel_rfl] at h
      exact h
    obtain ⟨bd, e2⟩ := rd_bool Tryd.underlying4 g2
    simp only [List.cons.injEq, and_true] at e0 e1 e2
    refine ⟨mn, mx, bd, ?_, p0, p1⟩
    simp [e0, e1, e2]
set_option maxRecDepth 100000 in
set_option maxHeartbeats 1600000 in
theorem dec_TT {cs : List Value} (h : Rd enc W 168 cs ws) : ∃ (el : Nat) (l_mn : Nat) (l_mx : Nat) (l_bd : Bool), cs = [.int .u8 (el : Int), .int .u32 (l_mn : Int), .int .u32 (l_mx : Int), .bool l_bd] ∧ el < 256 ∧ l_mn < 4294967296 ∧ l_mx < 4294967296 := by
  obtain ⟨hl, hf⟩ := rd_struct (n := 4) Tryd.underlying168 (by kernel_rfl) h
  match cs, hl with
  | [k0, k1, k2, k3], _ =>
    have g0 : Rd enc W 53 [k0] ws := by
      have h : Rd enc W 53 (([k0, k1, k2, k3].drop 0).take (Tryd.prog.cellsOf 53)) ws := hf 0 _ rfl
      rw [show Tryd.prog.cellsOf 53 = 1 from by kernel_rfl] at h
      exact h
    obtain ⟨el, e0, p0⟩ := rd_u8 Tryd.underlying53 g0
    have g1 : Rd enc W 166 [k1, k2, k3] ws := by
      have h : Rd enc W 166 (([k0, k1, k2, k3].drop 1).take (Tryd.prog.cellsOf 166)) ws := hf 1 _ rfl
      rw [show Tryd.prog.cellsOf 166 = 3 from by kernel_rfl] at h
      exact h
    obtain ⟨l_mn, l_mx, l_bd, e1, p1_0, p1_1⟩ := dec_LIM g1
    simp only [List.cons.injEq, and_true] at e0 e1
    refine ⟨el, l_mn, l_mx, l_bd, ?_, p0, p1_0, p1_1⟩
    simp [e0, e1]
set_option maxRecDepth 100000 in
set_option maxHeartbeats 1600000 in
theorem dec_GT {cs : List Value} (h : Rd enc W 136 cs ws) : ∃ (v : Nat) (m : Bool), cs = [.int .u8 (v : Int), .bool m] ∧ v < 256 := by
  obtain ⟨hl, hf⟩ := rd_struct (n := 2) Tryd.underlying136 (by kernel_rfl) h
  match cs, hl with
  | [k0, k1], _ =>
    have g0 : Rd enc W 53 [k0] ws := by
      have h : Rd enc W 53 (([k0, k1].drop 0).take (Tryd.prog.cellsOf 53)) ws := hf 0 _ rfl
      rw [show Tryd.prog.cellsOf 53 = 1 from by kernel_rfl] at h
      exact h
    obtain ⟨v, e0, p0⟩ := rd_u8 Tryd.underlying53 g0
    have g1 : Rd enc W 4 [k1] ws := by
      have h : Rd enc W 4 (([k0, k1].drop 1).take (Tryd.prog.cellsOf 4)) ws := hf 1 _ rfl
      rw [show Tryd.prog.cellsOf 4 = 1 from by kernel_rfl] at h
      exact h
    obtain ⟨m, e1⟩ := rd_bool Tryd.underlying4 g1
    simp only [List.cons.injEq, and_true] at e0 e1
    refine ⟨v, m, ?_, p0⟩
    simp [e0, e1]
set_option maxRecDepth 100000 in
set_option maxHeartbeats 1600000 in
theorem dec_LOC {cs : List Value} (h : Rd enc W 84 cs ws) : ∃ (n : Nat) (t : Nat), cs = [.int .u32 (n : Int), .int .u8 (t : Int)] ∧ n < 4294967296 ∧ t < 256 := by
  obtain ⟨hl, hf⟩ := rd_struct (n := 2) Tryd.underlying84 (by kernel_rfl) h
  match cs, hl with
  | [k0, k1], _ =>
    have g0 : Rd enc W 41 [k0] ws := by
      have h : Rd enc W 41 (([k0, k1].drop 0).take (Tryd.prog.cellsOf 41)) ws := hf 0 _ rfl
      rw [show Tryd.prog.cellsOf 41 = 1 from by kernel_rfl] at h
      exact h
    obtain ⟨n, e0, p0⟩ := rd_u32 Tryd.underlying41 g0
    have g1 : Rd enc W 53 [k1] ws := by
      have h : Rd enc W 53 (([k0, k1].drop 1).take (Tryd.prog.cellsOf 53)) ws := hf 1 _ rfl
      rw [show Tryd.prog.cellsOf 53 = 1 from by kernel_rfl] at h
      exact h
    obtain ⟨t, e1, p1⟩ := rd_u8 Tryd.underlying53 g1
    simp only [List.cons.injEq, and_true] at e0 e1
    refine ⟨n, t, ?_, p0, p1⟩
    simp [e0, e1]
set_option maxRecDepth 100000 in
set_option maxHeartbeats 1600000 in
theorem dec_CTX {cs : List Value} (h : Rd enc W 30 cs ws) : ∃ (ty_A : Option Addr) (ty_n ty_c : Nat) (fu_A : Option Addr) (fu_n fu_c : Nat) (ta_A : Option Addr) (ta_n ta_c : Nat) (me_A : Option Addr) (me_n me_c : Nat) (gl_A : Option Addr) (gl_n gl_c : Nat) (el_A : Option Addr) (el_n el_c : Nat) (datas : Int) (re_A : Option Addr) (re_n re_c : Nat) (lo_A : Option Addr) (lo_n lo_c : Nat) (rs_A : Option Addr) (rs_n rs_c : Nat) (fixed : Int), cs = [.slice ty_A ty_n ty_c, .slice fu_A fu_n fu_c, .slice ta_A ta_n ta_c, .slice me_A me_n me_c, .slice gl_A gl_n gl_c, .slice el_A el_n el_c, .int .i64 datas, .slice re_A re_n re_c, .slice lo_A lo_n lo_c, .slice rs_A rs_n rs_c, .int .i64 fixed] ∧ Rd enc W 22 [.slice ty_A ty_n ty_c] ws ∧ Rd enc W 22 [.slice fu_A fu_n fu_c] ws ∧ Rd enc W 23 [.slice ta_A ta_n ta_c] ws ∧ Rd enc W 24 [.slice me_A me_n me_c] ws ∧ Rd enc W 25 [.slice gl_A gl_n gl_c] ws ∧ Rd enc W 26 [.slice el_A el_n el_c] ws ∧ (-9223372036854775808 ≤ datas ∧ datas ≤ 9223372036854775807) ∧ Rd enc W 27 [.slice re_A re_n re_c] ws ∧ Rd enc W 28 [.slice lo_A lo_n lo_c] ws ∧ Rd enc W 26 [.slice rs_A rs_n rs_c] ws ∧ (-9223372036854775808 ≤ fixed ∧ fixed ≤ 9223372036854775807) := by
  obtain ⟨hl, hf⟩ := rd_struct (n := 11) Tryd.underlying30 (by kernel_rfl) h
  match cs, hl with
  | [k0, k1, k2, k3, k4, k5, k6, k7, k8, k9, k10], _ =>
    have g0 : Rd enc W 22 [k0] ws := by
      have h : Rd enc W 22 (([k0, k1, k2, k3, k4, k5, k6, k7, k8, k9, k10].drop 0).take (Tryd.prog.cellsOf 22)) ws := hf 0 _ rfl
      rw [show Tryd.prog.cellsOf 22 = 1 from by kernel_rfl] at h
      exact h
    obtain ⟨ty_A, ty_n, ty_c, e0⟩ := rd_slice_shape Tryd.underlying22 g0
    rw [e0] at g0
    have g1 : Rd enc W 22 [k1] ws := by
      have h : Rd enc W 22 (([k0, k1, k2, k3, k4, k5, k6, k7, k8, k9, k10].drop 1).take (Tryd.prog.cellsOf 22)) ws := hf 1 _ rfl
      rw [show Tryd.prog.cellsOf 22 = 1 from by kernel_rfl] at h
      exact h
    obtain ⟨fu_A, fu_n, fu_c, e1⟩ := rd_slice_shape Tryd.underlying22 g1
    rw [e1] at g1
    have g2 : Rd enc W 23 [k2] ws := by
      have h : Rd enc W 23 (([k0, k1, k2, k3, k4, k5, k6, k7, k8, k9, k10].drop 2).take (Tryd.prog.cellsOf 23)) ws := hf 2 _ rfl
      rw [show Tryd.prog.cellsOf 23 = 1 from by kernel_rfl] at h
      exact h
    obtain ⟨ta_A, ta_n, ta_c, e2⟩ := rd_slice_shape Tryd.underlying23 g2
    rw [e2] at g2
    have g3 : Rd enc W 24 [k3] ws := by
      have h : Rd enc W 24 (([k0, k1, k2, k3, k4, k5, k6, k7, k8, k9, k10].drop 3).take (Tryd.prog.cellsOf 24)) ws := hf 3 _ rfl
      rw [show Tryd.prog.cellsOf 24 = 1 from by kernel_rfl] at h
      exact h
    obtain ⟨me_A, me_n, me_c, e3⟩ := rd_slice_shape Tryd.underlying24 g3
    rw [e3] at g3
    have g4 : Rd enc W 25 [k4] ws := by
      have h : Rd enc W 25 (([k0, k1, k2, k3, k4, k5, k6, k7, k8, k9, k10].drop 4).take (Tryd.prog.cellsOf 25)) ws := hf 4 _ rfl
      rw [show Tryd.prog.cellsOf 25 = 1 from by kernel_rfl] at h
      exact h
    obtain ⟨gl_A, gl_n, gl_c, e4⟩ := rd_slice_shape Tryd.underlying25 g4
    rw [e4] at g4
    have g5 : Rd enc W 26 [k5] ws := by
      have h : Rd enc W 26 (([k0, k1, k2, k3, k4, k5, k6, k7, k8, k9, k10].drop 5).take (Tryd.prog.cellsOf 26)) ws := hf 5 _ rfl
      rw [show Tryd.prog.cellsOf 26 = 1 from by kernel_rfl] at h
      exact h
    obtain ⟨el_A, el_n, el_c, e5⟩ := rd_slice_shape Tryd.underlying26 g5
    rw [e5] at g5
    have g6 : Rd enc W 3 [k6] ws := by
      have h : Rd enc W 3 (([k0, k1, k2, k3, k4, k5, k6, k7, k8, k9, k10].drop 6).take (Tryd.prog.cellsOf 3)) ws := hf 6 _ rfl
      rw [show Tryd.prog.cellsOf 3 = 1 from by kernel_rfl] at h
      exact h
    obtain ⟨datas, e6, p6⟩ := rd_int Tryd.underlying3 g6
    have g7 : Rd enc W 27 [k7] ws := by
      have h : Rd enc W 27 (([k0, k1, k2, k3, k4, k5, k6, k7, k8, k9, k10].drop 7).take (Tryd.prog.cellsOf 27)) ws := hf 7 _ rfl
      rw [show Tryd.prog.cellsOf 27 = 1 from by kernel_rfl] at h
      exact h
    obtain ⟨re_A, re_n, re_c, e7⟩ := rd_slice_shape Tryd.underlying27 g7
    rw [e7] at g7
    have g8 : Rd enc W 28 [k8] ws := by
      have h : Rd enc W 28 (([k0, k1, k2, k3, k4, k5, k6, k7, k8, k9, k10].drop 8).take (Tryd.prog.cellsOf 28)) ws := hf 8 _ rfl
      rw [show Tryd.prog.cellsOf 28 = 1 from by kernel_rfl] at h
      exact h
    obtain ⟨lo_A, lo_n, lo_c, e8⟩ := rd_slice_shape Tryd.underlying28 g8
    rw [e8] at g8
    have g9 : Rd enc W 26 [k9] ws := by
      have h : Rd enc W 26 (([k0, k1, k2, k3, k4, k5, k6, k7, k8, k9, k10].drop 9).take (Tryd.prog.cellsOf 26)) ws := hf 9 _ rfl
      rw [show Tryd.prog.cellsOf 26 = 1 from by kernel_rfl] at h
      exact h
    obtain ⟨rs_A, rs_n, rs_c, e9⟩ := rd_slice_shape Tryd.underlying26 g9
    rw [e9] at g9
    have g10 : Rd enc W 3 [k10] ws := by
      have h : Rd enc W 3 (([k0, k1, k2, k3, k4, k5, k6, k7, k8, k9, k10].drop 10).take (Tryd.prog.cellsOf 3)) ws := hf 10 _ rfl
      rw [show Tryd.prog.cellsOf 3 = 1 from by kernel_rfl] at h
      exact h
    obtain ⟨fixed, e10, p10⟩ := rd_int Tryd.underlying3 g10
    simp only [List.cons.injEq, and_true] at e0 e1 e2 e3 e4 e5 e6 e7 e8 e9 e10
    refine ⟨ty_A, ty_n, ty_c, fu_A, fu_n, fu_c, ta_A, ta_n, ta_c, me_A, me_n, me_c, gl_A, gl_n, gl_c, el_A, el_n, el_c, datas, re_A, re_n, re_c, lo_A, lo_n, lo_c, rs_A, rs_n, rs_c, fixed, ?_, g0, g1, g2, g3, g4, g5, bounds_i64 p6, g7, g8, g9, bounds_i64 p10⟩
    simp [e0, e1, e2, e3, e4, e5, e6, e7, e8, e9, e10]
end
end Go.Proofs.YtfmblalbcodpmaaDoor
namespace Go.Proofs.YtfmblalbcodpmaaDoor
open Go.ChangeShapes Go.WideShapes Go.ChangeAt Go.RowKit Go.Joins
/-- What a context's numbers keep to. -/
structure CtxOk (p : CtxP) : Prop where
  types : ∀ q ∈ p.types, (∀ x ∈ q.1, x < 256) ∧ ∀ x ∈ q.2, x < 256
  funcs : ∀ q ∈ p.funcs, (∀ x ∈ q.1, x < 256) ∧ ∀ x ∈ q.2, x < 256
  tables : ∀ q ∈ p.tables, q.1 < 256 ∧ q.2.1 < 4294967296 ∧ q.2.2.1 < 4294967296
  mems : ∀ q ∈ p.mems, q.1 < 4294967296 ∧ q.2.1 < 4294967296
  globals : ∀ q ∈ p.globals, q.1 < 256
  elems : ∀ x ∈ p.elems, x < 256
  refs : ∀ x ∈ p.refs, x < 4294967296
  locals : ∀ q ∈ p.locals, q.1 < 4294967296 ∧ q.2 < 256
  results : ∀ x ∈ p.results, x < 256
  datas : -9223372036854775808 ≤ p.datas ∧ p.datas ≤ 9223372036854775807
  fixed : -9223372036854775808 ≤ p.fixed ∧ p.fixed ≤ 9223372036854775807
section
variable {H : Type} {enc : TypeId × Value → H} {W : World} {ws : List Nat}
theorem flat_one {α : Type} (f : α → Value) : ∀ l : List α, l.flatMap (fun x => [f x]) = l.map f
  | [] => rfl
  | x :: r => by rw [List.flatMap_cons, List.map_cons, flat_one f r]; rfl
theorem u8s_rd {A : Option Addr} {n c : Nat} (h : Rd enc W 26 [.slice A n c] ws) (hws : ∀ q ∈ ws, q ≤ reachBytes) : ∃ l : List Nat, l.length = n ∧ SlL W 1 A n c (l.map nV) ∧ (∀ x ∈ l, x < 256) ∧ n ≤ 140737488351232 := by
  have hs := rd_slice Tryd.underlying26 (sz := 1) (bytes := 1) (by kernel_rfl) (by kernel_rfl) (by decide) h
  obtain ⟨l, h1, h2, h3⟩ := rd_list (fun x : Nat => [nV x]) (fun _ => rfl) (fun x => x < 256) (fun cs hc => by
    obtain ⟨m, e, hm⟩ := rd_u8 Tryd.underlying53 hc
    exact ⟨m, e, hm⟩) hs
  rw [flat_one] at h2
  exact ⟨l, h1, h2, h3, by have := hs.wt hws; omega⟩
theorem u32s_rd {A : Option Addr} {n c : Nat} (h : Rd enc W 27 [.slice A n c] ws) (hws : ∀ q ∈ ws, q ≤ reachBytes) : ∃ l : List Nat, l.length = n ∧ SlL W 1 A n c (l.map nV32) ∧ (∀ x ∈ l, x < 4294967296) ∧ n ≤ 140737488351232 := by
  have hs := rd_slice Tryd.underlying27 (sz := 1) (bytes := 4) (by kernel_rfl) (by kernel_rfl) (by decide) h
  obtain ⟨l, h1, h2, h3⟩ := rd_list (fun x : Nat => [nV32 x]) (fun _ => rfl) (fun x => x < 4294967296) (fun cs hc => by
    obtain ⟨m, e, hm⟩ := rd_u32 Tryd.underlying41 hc
    exact ⟨m, e, hm⟩) hs
  rw [flat_one] at h2
  exact ⟨l, h1, h2, h3, by have := hs.wt hws; omega⟩
theorem fts_rd {A : Option Addr} {n c : Nat} (h : Rd enc W 22 [.slice A n c] ws) (hws : ∀ q ∈ ws, q ≤ reachBytes) : ∃ l : List FTy, l.length = n ∧ SlFT W A n c l ∧ (∀ q ∈ l, (∀ x ∈ q.1, x < 256) ∧ ∀ x ∈ q.2, x < 256) ∧ n ≤ 140737488351232 := by
  have hs := rd_slice Tryd.underlying22 (sz := 2) (bytes := 48) (by kernel_rfl) (by kernel_rfl) (by decide) h
  by_cases h0 : n = 0
  · subst h0
    exact ⟨[], rfl, ⟨rfl, hs.le, hs.cm, fun h => absurd h (Nat.lt_irrefl 0)⟩, by simp, Nat.zero_le _⟩
  obtain ⟨b, o, rfl, he⟩ := hs.el (by omega)
  obtain ⟨l, hl, hq⟩ := list_of (Q := fun i (p : FTy) => (∃ pA pn pc rA rn rc, W.cell? ⟨b, o + i * 2, none⟩ = some (.slice pA pn pc) ∧ W.cell? ⟨b, o + i * 2 + 1, none⟩ = some (.slice rA rn rc) ∧ SlL W 1 pA pn pc (p.1.map nV) ∧ SlL W 1 rA rn rc (p.2.map nV) ∧ pn ≤ 140737488355328 ∧ rn ≤ 140737488355328) ∧ (∀ x ∈ p.1, x < 256) ∧ ∀ x ∈ p.2, x < 256) n (fun i hi => by
    obtain ⟨cs, _, hc, hr⟩ := he i hi
    obtain ⟨pA, pn, pc, rA, rn, rc, rfl, hp, hr2⟩ := dec_FT hr
    obtain ⟨l1, _, a2, a3, a4⟩ := u8s_rd hp hws
    obtain ⟨l2, _, b2, b3, b4⟩ := u8s_rd hr2 hws
    exact ⟨(l1, l2), ⟨pA, pn, pc, rA, rn, rc, hc 0 (by decide), hc 1 (by decide), a2, b2, by omega, by omega⟩, a3, b3⟩)
  refine ⟨l, hl, ⟨hl.symm, hs.le, hs.cm, fun _ => ⟨b, o, rfl, fun k p hp => (hq k p hp).1⟩⟩, fun q hq' => ?_, by have := hs.wt hws; omega⟩
  obtain ⟨i, hi⟩ := List.mem_iff_getElem?.1 hq'
  exact (hq i q hi).2
theorem ctx_rd {cs : List Value} (h : Rd enc W 30 cs ws) (hws : ∀ q ∈ ws, q ≤ reachBytes) : ∃ (c : CC) (p : CtxP), cs = c.arr.toList ∧ CtxAt W c p ∧ CtxOk p := by
  obtain ⟨ty_A, ty_n, ty_c, fu_A, fu_n, fu_c, ta_A, ta_n, ta_c, me_A, me_n, me_c, gl_A, gl_n, gl_c, el_A, el_n, el_c, datas, re_A, re_n, re_c, lo_A, lo_n, lo_c, rs_A, rs_n, rs_c, fixed, e, h1, h2, h3, h4, h5, h6, h7, h8, h9, h10, h11⟩ := dec_CTX h
  obtain ⟨ty, a1, a2, a3, a4⟩ := fts_rd h1 hws
  obtain ⟨fu, b1, b2, b3, b4⟩ := fts_rd h2 hws
  have s3 := rd_slice Tryd.underlying23 (sz := 4) (bytes := 16) (by kernel_rfl) (by kernel_rfl) (by decide) h3
  obtain ⟨ta, c1, c2, c3⟩ := rd_list (fun x : Nat × Nat × Nat × Bool => tabC x) (fun _ => rfl) (fun q => q.1 < 256 ∧ q.2.1 < 4294967296 ∧ q.2.2.1 < 4294967296) (fun cs hc => by
    obtain ⟨x1, x2, x3, x4, e, y1, y2, y3⟩ := dec_TT hc
    exact ⟨(x1, x2, x3, x4), e, y1, y2, y3⟩) s3
  have s4 := rd_slice Tryd.underlying24 (sz := 3) (bytes := 12) (by kernel_rfl) (by kernel_rfl) (by decide) h4
  obtain ⟨me, d1, d2, d3⟩ := rd_list (fun x : Nat × Nat × Bool => limC x) (fun _ => rfl) (fun q => q.1 < 4294967296 ∧ q.2.1 < 4294967296) (fun cs hc => by
    obtain ⟨x1, x2, x3, e, y1, y2⟩ := dec_LIM hc
    exact ⟨(x1, x2, x3), e, y1, y2⟩) s4
  have s5 := rd_slice Tryd.underlying25 (sz := 2) (bytes := 2) (by kernel_rfl) (by kernel_rfl) (by decide) h5
  obtain ⟨gl, e1, e2, e3⟩ := rd_list (fun x : Nat × Bool => globC x) (fun _ => rfl) (fun q => q.1 < 256) (fun cs hc => by
    obtain ⟨x1, x2, e, y1⟩ := dec_GT hc
    exact ⟨(x1, x2), e, y1⟩) s5
  obtain ⟨el, f1, f2, f3, f4⟩ := u8s_rd h6 hws
  obtain ⟨re, g1, g2, g3, g4⟩ := u32s_rd h8 hws
  have s9 := rd_slice Tryd.underlying28 (sz := 2) (bytes := 8) (by kernel_rfl) (by kernel_rfl) (by decide) h9
  obtain ⟨lo, i1, i2, i3⟩ := rd_list (fun x : Nat × Nat => locC x) (fun _ => rfl) (fun q => q.1 < 4294967296 ∧ q.2 < 256) (fun cs hc => by
    obtain ⟨x1, x2, e, y1, y2⟩ := dec_LOC hc
    exact ⟨(x1, x2), e, y1, y2⟩) s9
  obtain ⟨rs, j1, j2, j3, j4⟩ := u8s_rd h10 hws
  have w3 := s3.wt hws
  have w4 := s4.wt hws
  have w5 := s5.wt hws
  have w9 := s9.wt hws
  refine ⟨⟨ty_A, ty_n, ty_c, fu_A, fu_n, fu_c, ta_A, ta_n, ta_c, me_A, me_n, me_c, gl_A, gl_n, gl_c, el_A, el_n, el_c, datas, re_A, re_n, re_c, lo_A, lo_n, lo_c, rs_A, rs_n, rs_c, fixed⟩, ⟨ty, fu, ta, me, gl, el, datas, re, lo, rs, fixed⟩, e,
    ⟨a2, b2, c2, d2, e2, f2, rfl, g2, i2, j2, rfl, i3, ?_⟩, ⟨a3, b3, c3, d3, e3, f3, g3, i3, j3, h7, h11⟩⟩
  simp only
  omega
end
end Go.Proofs.YtfmblalbcodpmaaDoor
namespace Go.Proofs.YtfmblalbcodpmaaDoor
open Go.ChangeShapes Go.WideShapes Go.ChangeAt Go.RowKit Go.Joins
def laidL : List (String × DataW Unit) := [("unicode/utf8.acceptRanges", Rows.laid_unicode_utf8_acceptRanges), ("unicode.White_Space", Rows.laid_unicode_White_Space), ("strings.asciiSpace", Rows.laid_strings_asciiSpace), ("unicode/utf8.first", Rows.laid_unicode_utf8_first)]
def spL : List Int := (List.range 256).map fun c => if Lib.isSp (UInt8.ofNat c) then 1 else 0
theorem spL_eq : (Rows.laid_strings_asciiSpace : DataW Unit) = Lib.tabData .u8 spL := by kernel_rfl
theorem spG : Tryd.prog.globalNamed "strings.asciiSpace" = some 1 := by kernel_rfl
theorem spT : (Tryd.prog.globals[1]?).bind (fun v => (Tryd.prog.underlying v.type).map fun d => (match d with | .array n e => n == 256 && (match Tryd.prog.underlying e with | some (.int .u8) => true | _ => false) && Tryd.prog.cellsOf e == 1 | _ => false) && Tryd.prog.cellsOf v.type == 256) = some true := by kernel_rfl
/-- The blanks' table, off the row's list. -/
theorem sp_tab {W : World} (h : laidMetH Tryd.prog laidL W) : SpTab W := by
  obtain ⟨g, t, cs, fuel, p, h1, h2, h3, h4⟩ := Lib.laidMet.reads (l := laidL) h (.tail _ (.tail _ (.head _)))
  obtain rfl := Option.some.inj (spG.symm.trans h1)
  rw [spL_eq] at h4
  have hT := spT
  cases hv : Tryd.prog.globals[1]? with
  | none => rw [hv] at h2; cases h2
  | some v =>
    rw [hv] at h2 hT
    simp only [Option.map_some, Option.some.injEq] at h2
    subst h2
    simp only [Option.bind_some] at hT
    cases hu : Tryd.prog.underlying v.type with
    | none => rw [hu] at hT; cases hT
    | some d =>
      rw [hu] at hT
      simp only [Option.map_some, Option.some.injEq, Bool.and_eq_true, beq_iff_eq] at hT
      obtain ⟨hd, hc⟩ := hT
      cases d with
      | array n e =>
        simp only [Bool.and_eq_true, beq_iff_eq] at hd
        obtain ⟨⟨rfl, he⟩, hce⟩ := hd
        have hei : Tryd.prog.underlying e = some (.int .u8) := by
          cases hq : Tryd.prog.underlying e with
          | none => rw [hq] at he; cases he
          | some x =>
            rw [hq] at he
            cases x with
            | int k => cases k <;> first | rfl | (cases he)
            | _ => cases he
        have hcs := Lib.cells_of_tab hu hei hce hc h4
        intro c hc2
        have ht : Lib.TabIs Tryd.prog W "strings.asciiSpace" .u8 spL := by
          unfold Lib.TabIs
          rw [h3, ← hcs]
        have h5 := ht.cell spG c (by unfold spL; simpa using hc2)
        rw [show (libR.g 0) = 1 from rfl, h5]
        unfold spL
        simp [List.getD_eq_getElem?_getD, hc2]
      | _ => cases hd

noncomputable abbrev N0 : Nat := (World.settled Tryd.prog default).heap.size
/-- The settled world, two blocks more (White_Space's R16, its RangeTable), the four variables holding what their initialisers lay. -/
noncomputable def laidWorld (os : Os) : World :=
  let N := (World.settled Tryd.prog os).heap.size
  let w0 := World.holding Tryd.prog os ⟨#[
    .cells #[.int .u16 9, .int .u16 13, .int .u16 1, .int .u16 32, .int .u16 133, .int .u16 101, .int .u16 160, .int .u16 5760, .int .u16 5600, .int .u16 8192, .int .u16 8202, .int .u16 1, .int .u16 8232, .int .u16 8233, .int .u16 1, .int .u16 8239, .int .u16 8287, .int .u16 48, .int .u16 12288, .int .u16 12288, .int .u16 1] 213,
    .cells #[.slice (some ⟨N, 0, none⟩) 7 7, .slice none 0 0, .int .i64 2] 211], #[], []⟩
  let put (h : Array Obj) (g : Nat) (cs : Array Value) : Array Obj := h.modify g fun
    | .cells _ t frozen => .cells cs t frozen
    | o => o
  let h1 := put w0.heap 1 (spL.map fun z => Value.int .u8 z).toArray
  let h2 := put h1 3 (Lib.firstTab.map fun z => Value.int .u8 z).toArray
  let h3 := put h2 4 ((List.range 16).flatMap fun i => [Value.int .u8 (Lib.accLo i), Value.int .u8 (Lib.accHi i)]).toArray
  let h4 := put h3 2 #[.pointer (some ⟨N + 1, 0, none⟩)]
  { w0 with heap := h4 }
theorem laid_met (os : Os) (args : Array Value) : laidMet Tryd.prog laidL ((laidWorld os).forCall (fun _ _ => 0) ⟨#[], args, []⟩).memory :=
  (LaidIn.of_run (l := laidL) [1, 3, 4, 2, N0, N0 + 1] 8 (by kernel_rfl) (by kernel_rfl) (by kernel_rfl) (by kernel_rfl)).met
end Go.Proofs.YtfmblalbcodpmaaDoor
