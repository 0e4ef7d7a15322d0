/- What the proofs lean on, part 1 of Fm. No condition. -/
import Derived.Test.YtfmblalbcodpmaaDoorMDoa
import Derived.Test.YtfmblalbcodpmaaDoorMDob
import Derived.Test.YtfmblalbcodpmaaDoorMDoc
import Derived.Test.YtfmblalbcodpmaaDoorMDod
import Derived.Test.YtfmblalbcodpmaaDoorMDoh
import Derived.WalkKit
import Derived.WalkSpells
import Derived.WalkLawsBesides
import Derived.BigQuiet
import Derived.Deep.QuietTactic
import Derived.Deep.OwnRows
import Derived.Deep.Draws
import Derived.Laws.OwnMore
import Derived.Laws.Rows
import Derived.Lib.Hide
import Derived.Laws.Append
import Derived.Laws.AppendOwn
namespace Go.Proofs.YtfmblalbcodpmaaDoor
open Go.RowKit
section
variable {w w' : World} {g : Nat} {t : TypeId} {cs : Array Value}
theorem Blk.far (h : Blk w g t cs) {p : Addr} (hp : g ≠ p.block) (u : Value) : Blk (w.setCell p u) g t cs := (Below.heap_setCell w p u g hp).trans h
theorem Blk.ne_ {g' : Nat} {t' : TypeId} {cs' : Array Value} (h : Blk w g t cs) (h' : Blk w g' t' cs') (hne : t ≠ t') : g ≠ g' := by
  rintro rfl
  unfold Blk at h h'
  rw [h] at h'
  injection h' with h'
  injection h' with _ ht
  exact hne ht
end
section
variable {S S' : Nat → Prop} {a w w' : World}
theorem Kept.below (h : Kept S a w) {B : Nat} (hB : B ≤ a.heap.size) (hs : ∀ k, S k → B ≤ k) : Below B a w :=
  ⟨h.os, h.tape, h.output, h.size, fun k hk => h.block k (by omega) (fun x => by have := hs k x; omega)⟩
theorem Kept.below0 (h : Kept S0 a w) : Below a.heap.size a w := h.below (Nat.le_refl _) (fun _ x => x.elim)
end
theorem Row.ne {w : World} {g g' : Nat} {t t' : TypeId} {n : Nat} {f : Nat → Value} {cs' : Array Value} (h : w.rowIs g t n f) (h' : Blk w g' t' cs') (hne : t ≠ t') : g ≠ g' := by
  obtain ⟨c, hb, _, _⟩ := h
  exact Blk.ne_ (t := t) hb h' hne
end Go.Proofs.YtfmblalbcodpmaaDoor
namespace Go.Proofs.YtfmblalbcodpmaaDoor
open Go.RowKit
section
variable {w w' : World} {base e size n : Nat} {Q : Value → Prop} {v : Value} {F : Nat → Value}
theorem Own.ne_blk {g t : Nat} {cs : Array Value} (h : Own w base e size Q v n F) (hb : Blk w g t cs) (hne : e ≠ t) : v.ownBlock ≠ some g := by
  intro he
  rcases h with ⟨rfl, _⟩ | ⟨g', cap, fr, rfl, _, _, _, hr, _⟩
  · simp [Value.ownBlock] at he
  · have : g' = g := by simpa [Value.ownBlock] using he
    exact Row.ne hr hb hne this
theorem Own.made {w : World} {z : Value} {t : Nat} (hb : base ≤ w.heap.size) (hz : Q z) (n : Nat) (hn : n ≤ maxLen) : Own (w.alloc (.cells (madeCells #[z] n) t)) base t 1 Q (.slice (some ⟨w.heap.size, 0, none⟩) n n) n (fun _ => z) :=
  .inr ⟨w.heap.size, n, fun _ => z, rfl, hb, Nat.le_refl _, hn, by rw [Nat.mul_one]; exact World.rowIs_made w z n t, fun _ _ => rfl, fun _ _ => hz⟩
end
end Go.Proofs.YtfmblalbcodpmaaDoor
namespace Go.Proofs.YtfmblalbcodpmaaDoor
open Go.RowKit
section
variable {w w' : World} {base e size n : Nat} {v : Value} {L : List Value}
theorem OwnL.ne_blk {g t : Nat} {cs : Array Value} (h : OwnL w base e size v n L) (hb : Blk w g t cs) (hne : e ≠ t) : v.ownBlock ≠ Option.some g := h.own.ne_blk hb hne
end
theorem Pushed.blk {w w' : World} {base e size k : Nat} {v v' : Value} {L : List Value} (h : Pushed w w' base e size v v' k L) {g t : Nat} {cs : Array Value} (hb : Blk w g t cs) (hne : v.ownBlock ≠ some g) : Blk w' g t cs := h.kept.blk hb hne
end Go.Proofs.YtfmblalbcodpmaaDoor
namespace Go.Proofs.YtfmblalbcodpmaaDoor
open Go.RowKit
set_option maxRecDepth 100000 in
set_option maxHeartbeats 1600000 in
theorem lan1_any (t : Nat) (w : World) : Calls Tryd.prog 74 #[.int .u8 (t : Int)] w fun e w' => e = .returned (.bool (decide (31 < t))) ∧ w' = w := by
  have H := Lib.hid (show ∀ t : Nat, decide ((31 : Int) < (t : Int)) = decide (31 < t) from fun t => by rw [Bool.eq_iff_iff]; simp; omega)
  go_enter Tryd.func74, Tryd.ntmps74
  go_wp2_with fail
  all_goals
    go_ret
    exact ⟨ret_bool (by rw [Bool.eq_iff_iff]; simp; omega), rfl⟩
set_option maxRecDepth 100000 in
set_option maxHeartbeats 3200000 in
theorem ifb_any (A : Option Addr) (n c : Nat) (L : List Nat) (w : World) (hA : SlL w 1 A n c (L.map nV)) (hn : n ≤ 9223372036854775806) :
    Calls Tryd.prog 96 #[.slice A n c, .func (.func 74) #[] #[]] w fun e w' => e = .returned (.int .i64 (firstAt (fun t => decide (31 < t)) L 0)) ∧ w' = w := by
  have hl : L.length = n := by have := hA.len; simpa using this
  have HA := Lib.hid hA
  have HL := Lib.hid hl
  clear hl hA
  go_enter Tryd.func96, Tryd.ntmps96
  go_wp2_with fail
  go_loopw [8] (fun i wr => ∃ k : Nat, k ≤ n ∧ i = .int .i64 (k : Int) ∧ wr = w ∧ firstAt (fun t => decide (31 < t)) (L.drop k) k = firstAt (fun t => decide (31 < t)) L 0) (fun i _ => n + 1 - (intOf i).toNat)
  case atStart => exact ⟨0, Nat.zero_le _, rfl, rfl, rfl⟩
  case round =>
    obtain ⟨k, hk, rfl, rfl, hlm⟩ := hrel
    have HLM := Lib.hid hlm
    clear hlm
    by_cases hlt : k < n
    · obtain ⟨b, o, rfl, hc⟩ := HA.out.at (by omega)
      have hkL : k < L.length := by have := HL.out; omega
      have d1 : wr.cell? ⟨b, o + k, none⟩ = some (.int .u8 ((L[k] : Nat) : Int)) := hc k _ (by simp [List.getElem?_eq_getElem hkL, nV])
      have hlti : (k : Int) < (n : Int) := by omega
      have HF := Lib.hid (firstAt_drop (fun t => decide (31 < t)) (List.getElem?_eq_getElem hkL))
      clear hc
      generalize L[k] = x at *
      clear hkL
      have HC := Lib.hid (lan1_any x wr)
      cases hp : decide (31 < x) with
      | true =>
        rw [hp] at HC HF
        have HF2 := Lib.hid (HLM.out.symm.trans HF.out)
        clear hp HF
        go_wp2_with (go_at_call 74; refine HC.out.mono ?_; rintro e w' ⟨rfl, rfl⟩)
        go_ret
        exact ⟨ret_int (by rw [HF2.out]; rfl), rfl⟩
      | false =>
        rw [hp] at HC HF
        have HF2 := Lib.hid (HF.out.symm.trans HLM.out)
        clear hp HF
        go_wp2_with (go_at_call 74; refine HC.out.mono ?_; rintro e w' ⟨rfl, rfl⟩)
        go_roundw
        case rel => exact ⟨k + 1, by omega, by go_num, by first | rfl | trivial, HF2.out⟩
        case measure => simp [intOf]; omega
    · have hall : firstAt (fun t => decide (31 < t)) L 0 = -1 := by
        have h := HLM.out
        rw [List.drop_eq_nil_of_le (by have := HL.out; omega)] at h
        exact h.symm
      have HAL := Lib.hid hall
      clear hall
      go_wp2_with fail
      go_ret
      exact ⟨ret_int HAL.out.symm, rfl⟩
set_option maxRecDepth 100000 in
set_option maxHeartbeats 1600000 in
theorem cfb_any (A : Option Addr) (n c : Nat) (L : List Nat) (w : World) (hA : SlL w 1 A n c (L.map nV)) (hn : n ≤ 9223372036854775806) :
    Calls Tryd.prog 73 #[.slice A n c, .func (.func 74) #[] #[]] w fun e w' => e = .returned (.bool (L.any (fun t => decide (31 < t)))) ∧ w' = w := by
  have H := Lib.hid (ifb_any A n c L w hA hn)
  have HP := Lib.hid (firstAt_any (fun t => decide (31 < t)) L 0)
  clear hA
  generalize firstAt (fun t => decide (31 < t)) L 0 = z at *
  go_enter Tryd.func73, Tryd.ntmps73
  go_wp2_with fail
  refine H.out.mono ?_
  rintro e w' ⟨rfl, rfl⟩
  go_wp2_with fail
  all_goals
    go_ret
    exact ⟨ret_bool (by have h := HP.out.1; rw [Bool.eq_iff_iff, ← h]; simp), rfl⟩
end Go.Proofs.YtfmblalbcodpmaaDoor
namespace Go.Proofs.YtfmblalbcodpmaaDoor
open Go.RowKit
section
variable {P : Program}
theorem wpList_load_cells {ops : Array Oper} {rest : List Oper} {o : Oper} {a : Act} {w : World} {Q : Exit → Act → World → Prop} (hgd : o.guard = none) (ty : TypeId) (x : Operand) (ho : o.op = .load ty x)
    (p : Addr) (hx : a.eval x = .pointer (some p)) (cs : Array Value) (d : TypeDesc) (hc : ∀ j, j < cs.size → w.cell? (p.add j) = cs[j]?)
    (hu : P.underlying ty = some d) (hd : (match d with | .struct _ | .array _ _ => true | _ => false) = true) (hi : (P.info? ty).map (·.size) = some cs.size)
    (h : wpList P ops Q rest (a.put o.dst (.agg cs)) w) : wpList P ops Q (o :: rest) a w := by
  refine wpList_plain hgd fun _ hK => ?_
  unfold Oper.wp execOp
  simp only [ho, hx, Instr.loadAt, Instr.sureAddr, Sem.run_bind, Sem.run_pure, Result.andThen_ok, run_loadVar_cells w p ty cs d hc hu hd hi]
  exact hK _ _ h
end
end Go.Proofs.YtfmblalbcodpmaaDoor
namespace Go.Proofs.YtfmblalbcodpmaaDoor
open Go.RowKit
theorem SlFT.kept0 {w w' : World} {A : Option Addr} {n c : Nat} {l : List FTy} (h : SlFT w A n c l) (hk : Kept S0 w w') : SlFT w' A n c l :=
  ⟨h.len, h.le, h.cm, fun hn => by
    obtain ⟨b, o, e, hc⟩ := h.at_ hn
    refine ⟨b, o, e, fun k p hp => ?_⟩
    obtain ⟨pA, pn, pc, rA, rn, rc, h1, h2, h3, h4, h5⟩ := hc k p hp
    exact ⟨pA, pn, pc, rA, rn, rc, (hk.cell (p := ⟨b, o + k * 2, none⟩) (World.block_lt_of_cell? _ _ h1) (fun x => x)).trans h1, (hk.cell (p := ⟨b, o + k * 2 + 1, none⟩) (World.block_lt_of_cell? _ _ h2) (fun x => x)).trans h2, h3.kept0 hk, h4.kept0 hk, h5⟩⟩
theorem CtxAt.kept0 {w w' : World} {c : CC} {p : CtxP} (h : CtxAt w c p) (hk : Kept S0 w w') : CtxAt w' c p :=
  ⟨h.types.kept0 hk, h.funcs.kept0 hk, h.tables.kept0 hk, h.mems.kept0 hk, h.globals.kept0 hk, h.elems.kept0 hk, h.datas, h.refs.kept0 hk, h.locals.kept0 hk, h.results.kept0 hk, h.fixed, h.locok, h.le⟩
theorem CtxAt.lens {w : World} {c : CC} {p : CtxP} (h : CtxAt w c p) : c.tyn = p.types.length ∧ c.fun_ = p.funcs.length ∧ c.tan = p.tables.length ∧ c.men = p.mems.length ∧ c.gln = p.globals.length ∧ c.eln = p.elems.length ∧ c.ren = p.refs.length ∧ c.lon = p.locals.length ∧ c.rsn = p.results.length := by
  have h1 := h.tables.len
  have h2 := h.mems.len
  have h3 := h.globals.len
  have h4 := h.elems.len
  have h5 := h.refs.len
  have h6 := h.locals.len
  have h7 := h.results.len
  rw [flat_len tabC 4 (fun _ => rfl)] at h1
  rw [flat_len limC 3 (fun _ => rfl)] at h2
  rw [flat_len globC 2 (fun _ => rfl)] at h3
  rw [flat_len locC 2 (fun _ => rfl)] at h6
  rw [List.length_map] at h4 h5 h7
  exact ⟨h.types.len, h.funcs.len, by omega, by omega, by omega, by omega, by omega, by omega, by omega⟩
/-- Is there an index? -/
def isP (n : Nat) (many : Int) : Bool := decide ((n : Int) < many % 18446744073709551616)
set_option maxRecDepth 100000 in
set_option maxHeartbeats 1600000 in
theorem lis_any (n : Nat) (many : Int) (w : World) (hn : n < 4294967296) : Calls Tryd.prog 95 #[.int .u32 (n : Int), .int .i64 many] w fun e w' => e = .returned (.bool (isP n many)) ∧ w' = w := by
  have HP := Lib.hid (show isP n many = decide ((n : Int) < many % 18446744073709551616) from rfl)
  have u1 : IntKind.u64.wrap (n : Int) = (n : Int) := by rw [IntKind.wrap_u64]; omega
  have HU := Lib.hid (IntKind.wrap_u64 many)
  go_enter Tryd.func95, Tryd.ntmps95
  go_wp2_with fail
  all_goals
    go_ret
    exact ⟨ret_bool (by rw [HP.out]; first | rfl | (rw [HU.out]; rfl) | (simp [HU.out]; done)), rfl⟩
end Go.Proofs.YtfmblalbcodpmaaDoor
namespace Go.Proofs.YtfmblalbcodpmaaDoor
open Go.RowKit
/-- A flat instruction as cells. -/
structure FC where
  op : Nat
  a : Nat
  b : Nat
  n : Nat
  v : Nat → UInt8
  tA : Option Addr
  tn : Nat
  tc : Nat
  dst : Int
  keep : Int
  height : Int
  lA : Option Addr
  ln : Nat
  lc : Nat
def FC.arr (f : FC) : Array Value := #[.int .u16 (f.op : Int), .int .u32 (f.a : Int), .int .u32 (f.b : Int), .int .u64 (f.n : Int), .int .u8 ((f.v 0).toNat : Int), .int .u8 ((f.v 1).toNat : Int), .int .u8 ((f.v 2).toNat : Int), .int .u8 ((f.v 3).toNat : Int), .int .u8 ((f.v 4).toNat : Int), .int .u8 ((f.v 5).toNat : Int), .int .u8 ((f.v 6).toNat : Int), .int .u8 ((f.v 7).toNat : Int), .int .u8 ((f.v 8).toNat : Int), .int .u8 ((f.v 9).toNat : Int), .int .u8 ((f.v 10).toNat : Int), .int .u8 ((f.v 11).toNat : Int), .int .u8 ((f.v 12).toNat : Int), .int .u8 ((f.v 13).toNat : Int), .int .u8 ((f.v 14).toNat : Int), .int .u8 ((f.v 15).toNat : Int), .slice f.tA f.tn f.tc, .int .i64 f.dst, .int .i64 f.keep, .int .i64 f.height, .slice f.lA f.ln f.lc]
/-- A flat instruction. -/
structure FlP where
  op : Nat
  a : Nat
  b : Nat
  n : Nat
  v : Nat → UInt8
  T : List Nat
  dst : Int
  keep : Int
  height : Int
  L : List (Int × Int × Int)
def goalC (x : Int × Int × Int) : List Value := [.int .i64 x.1, .int .i64 x.2.1, .int .i64 x.2.2]
/-- One that lies in memory. -/
structure FlIs (w : World) (f : FC) (p : FlP) : Prop where
  op : f.op = p.op
  a : f.a = p.a
  b : f.b = p.b
  n : f.n = p.n
  v : f.v = p.v
  dst : f.dst = p.dst
  keep : f.keep = p.keep
  height : f.height = p.height
  t : SlL w 1 f.tA f.tn f.tc (p.T.map nV)
  l : SlL w 3 f.lA f.ln f.lc (p.L.flatMap goalC)
  opl : f.op < 65536
  al : f.a < 4294967296
  bl : f.b < 4294967296
  nl : f.n < 18446744073709551616
  tl : f.tn ≤ 1000000000000000
  ll : f.ln ≤ 1000000000000000
theorem FlIs.kept0 {w w' : World} {f : FC} {p : FlP} (h : FlIs w f p) (hk : Kept S0 w w') : FlIs w' f p :=
  ⟨h.op, h.a, h.b, h.n, h.v, h.dst, h.keep, h.height, h.t.kept0 hk, h.l.kept0 hk, h.opl, h.al, h.bl, h.nl, h.tl, h.ll⟩
/-- It, as one of a body. -/
def FC.ic (f : FC) : IC := ⟨f.op, f.a, f.b, f.n, f.v, none, 0, 0, f.tA, f.tn, f.tc, 0, 0, 0, none, 0, 0, none, 0, 0⟩
def FlP.ins (p : FlP) : Ins := ⟨p.op, p.a, p.b, p.n, p.v, [], p.T, 0, 0, 0⟩
theorem FlIs.ins {w : World} {f : FC} {p : FlP} (h : FlIs w f p) : InsIs w f.ic p.ins .nil .nil :=
  ⟨⟨h.op, h.a, h.b, h.n, h.v, rfl, rfl, rfl⟩, ⟨h.opl, h.al, h.bl, h.nl, Nat.zero_lt_succ _, Nat.zero_lt_succ _, Nat.zero_lt_succ _, Nat.zero_le _, h.tl, Nat.zero_le _, Nat.zero_le _⟩, ⟨SlL.zero _ 1, h.t⟩, ⟨rfl, Nat.le_refl _, Nat.zero_le _, fun e => absurd e (Nat.lt_irrefl 0)⟩, ⟨rfl, Nat.le_refl _, Nat.zero_le _, fun e => absurd e (Nat.lt_irrefl 0)⟩⟩
set_option maxRecDepth 100000 in
set_option maxHeartbeats 16000000 in
theorem instr_any (f : FC) (w : World) : Calls Tryd.prog 46 #[.agg f.arr] w fun e w' => e = .returned (.agg f.ic.arr) ∧ Kept S0 w w' := by
  have hka : Kept S0 w ((w.alloc (.cells f.arr 46)).alloc (.cells #[.int .u16 0, .int .u32 0, .int .u32 0, .int .u64 0, .int .u8 0, .int .u8 0, .int .u8 0, .int .u8 0, .int .u8 0, .int .u8 0, .int .u8 0, .int .u8 0, .int .u8 0, .int .u8 0, .int .u8 0, .int .u8 0, .int .u8 0, .int .u8 0, .int .u8 0, .int .u8 0, .slice none 0 0, .slice none 0 0, .int .u8 0, .int .u8 0, .int .u32 0, .slice none 0 0, .slice none 0 0] 70)) := ((Kept.refl S0 w).alloc _).alloc _
  have hb1 : Blk ((w.alloc (.cells f.arr 46)).alloc (.cells #[.int .u16 0, .int .u32 0, .int .u32 0, .int .u64 0, .int .u8 0, .int .u8 0, .int .u8 0, .int .u8 0, .int .u8 0, .int .u8 0, .int .u8 0, .int .u8 0, .int .u8 0, .int .u8 0, .int .u8 0, .int .u8 0, .int .u8 0, .int .u8 0, .int .u8 0, .int .u8 0, .slice none 0 0, .slice none 0 0, .int .u8 0, .int .u8 0, .int .u32 0, .slice none 0 0, .slice none 0 0] 70)) w.heap.size 46 f.arr := (Blk.new w _ _).alloc _
  have hb2 : Blk ((w.alloc (.cells f.arr 46)).alloc (.cells #[.int .u16 0, .int .u32 0, .int .u32 0, .int .u64 0, .int .u8 0, .int .u8 0, .int .u8 0, .int .u8 0, .int .u8 0, .int .u8 0, .int .u8 0, .int .u8 0, .int .u8 0, .int .u8 0, .int .u8 0, .int .u8 0, .int .u8 0, .int .u8 0, .int .u8 0, .int .u8 0, .slice none 0 0, .slice none 0 0, .int .u8 0, .int .u8 0, .int .u32 0, .slice none 0 0, .slice none 0 0] 70)) (w.heap.size + 1) 70 #[.int .u16 0, .int .u32 0, .int .u32 0, .int .u64 0, .int .u8 0, .int .u8 0, .int .u8 0, .int .u8 0, .int .u8 0, .int .u8 0, .int .u8 0, .int .u8 0, .int .u8 0, .int .u8 0, .int .u8 0, .int .u8 0, .int .u8 0, .int .u8 0, .int .u8 0, .int .u8 0, .slice none 0 0, .slice none 0 0, .int .u8 0, .int .u8 0, .int .u32 0, .slice none 0 0, .slice none 0 0] := Blk.new1 w _ _ _
  have HKA := Lib.hid hka
  have he : f.ic.arr = #[.int .u16 (f.op : Int), .int .u32 (f.a : Int), .int .u32 (f.b : Int), .int .u64 (f.n : Int), .int .u8 ((f.v 0).toNat : Int), .int .u8 ((f.v 1).toNat : Int), .int .u8 ((f.v 2).toNat : Int), .int .u8 ((f.v 3).toNat : Int), .int .u8 ((f.v 4).toNat : Int), .int .u8 ((f.v 5).toNat : Int), .int .u8 ((f.v 6).toNat : Int), .int .u8 ((f.v 7).toNat : Int), .int .u8 ((f.v 8).toNat : Int), .int .u8 ((f.v 9).toNat : Int), .int .u8 ((f.v 10).toNat : Int), .int .u8 ((f.v 11).toNat : Int), .int .u8 ((f.v 12).toNat : Int), .int .u8 ((f.v 13).toNat : Int), .int .u8 ((f.v 14).toNat : Int), .int .u8 ((f.v 15).toNat : Int), .slice none 0 0, .slice f.tA f.tn f.tc, .int .u8 0, .int .u8 0, .int .u32 0, .slice none 0 0, .slice none 0 0] := rfl
  have HE := Lib.hid he
  clear hka he
  unfold FC.arr at *
  obtain ⟨xop, xa, xb, xn, xv, xtA, xtn, xtc, xdst, xkeep, xheight, xlA, xln, xlc⟩ := f
  simp only at *
  have HB1 := Lib.hid hb1
  have HB2 := Lib.hid hb2
  clear hb1 hb2
  go_enter Tryd.func46, Tryd.ntmps46
  go_upto_region 1 with fail
  generalize ((w.alloc (.cells #[.int .u16 (xop : Int), .int .u32 (xa : Int), .int .u32 (xb : Int), .int .u64 (xn : Int), .int .u8 ((xv 0).toNat : Int), .int .u8 ((xv 1).toNat : Int), .int .u8 ((xv 2).toNat : Int), .int .u8 ((xv 3).toNat : Int), .int .u8 ((xv 4).toNat : Int), .int .u8 ((xv 5).toNat : Int), .int .u8 ((xv 6).toNat : Int), .int .u8 ((xv 7).toNat : Int), .int .u8 ((xv 8).toNat : Int), .int .u8 ((xv 9).toNat : Int), .int .u8 ((xv 10).toNat : Int), .int .u8 ((xv 11).toNat : Int), .int .u8 ((xv 12).toNat : Int), .int .u8 ((xv 13).toNat : Int), .int .u8 ((xv 14).toNat : Int), .int .u8 ((xv 15).toNat : Int), .slice xtA xtn xtc, .int .i64 xdst, .int .i64 xkeep, .int .i64 xheight, .slice xlA xln xlc] 46)).alloc (.cells #[.int .u16 0, .int .u32 0, .int .u32 0, .int .u64 0, .int .u8 0, .int .u8 0, .int .u8 0, .int .u8 0, .int .u8 0, .int .u8 0, .int .u8 0, .int .u8 0, .int .u8 0, .int .u8 0, .int .u8 0, .int .u8 0, .int .u8 0, .int .u8 0, .int .u8 0, .int .u8 0, .slice none 0 0, .slice none 0 0, .int .u8 0, .int .u8 0, .int .u32 0, .slice none 0 0, .slice none 0 0] 70)) = w2 at *
  have HGW := Lib.hid (Nat.le_succ w.heap.size)
  generalize hg : w.heap.size = g at *
  have c0 : w2.cell? ⟨g, 0, none⟩ = some (.int .u16 (xop : Int)) := HB1.out.cell 0
  have c1 : w2.cell? ⟨g, 1, none⟩ = some (.int .u32 (xa : Int)) := HB1.out.cell 1
  have c2 : w2.cell? ⟨g, 2, none⟩ = some (.int .u32 (xb : Int)) := HB1.out.cell 2
  have c3 : w2.cell? ⟨g, 3, none⟩ = some (.int .u64 (xn : Int)) := HB1.out.cell 3
  have c4 : w2.cell? ⟨g, 4, none⟩ = some (.int .u8 ((xv 0).toNat : Int)) := HB1.out.cell 4
  have c5 : w2.cell? ⟨g, 5, none⟩ = some (.int .u8 ((xv 1).toNat : Int)) := HB1.out.cell 5
  have c6 : w2.cell? ⟨g, 6, none⟩ = some (.int .u8 ((xv 2).toNat : Int)) := HB1.out.cell 6
  have c7 : w2.cell? ⟨g, 7, none⟩ = some (.int .u8 ((xv 3).toNat : Int)) := HB1.out.cell 7
  have c8 : w2.cell? ⟨g, 8, none⟩ = some (.int .u8 ((xv 4).toNat : Int)) := HB1.out.cell 8
  have c9 : w2.cell? ⟨g, 9, none⟩ = some (.int .u8 ((xv 5).toNat : Int)) := HB1.out.cell 9
  have c10 : w2.cell? ⟨g, 10, none⟩ = some (.int .u8 ((xv 6).toNat : Int)) := HB1.out.cell 10
  have c11 : w2.cell? ⟨g, 11, none⟩ = some (.int .u8 ((xv 7).toNat : Int)) := HB1.out.cell 11
  have c12 : w2.cell? ⟨g, 12, none⟩ = some (.int .u8 ((xv 8).toNat : Int)) := HB1.out.cell 12
  have c13 : w2.cell? ⟨g, 13, none⟩ = some (.int .u8 ((xv 9).toNat : Int)) := HB1.out.cell 13
  have c14 : w2.cell? ⟨g, 14, none⟩ = some (.int .u8 ((xv 10).toNat : Int)) := HB1.out.cell 14
  have c15 : w2.cell? ⟨g, 15, none⟩ = some (.int .u8 ((xv 11).toNat : Int)) := HB1.out.cell 15
  have c16 : w2.cell? ⟨g, 16, none⟩ = some (.int .u8 ((xv 12).toNat : Int)) := HB1.out.cell 16
  have c17 : w2.cell? ⟨g, 17, none⟩ = some (.int .u8 ((xv 13).toNat : Int)) := HB1.out.cell 17
  have c18 : w2.cell? ⟨g, 18, none⟩ = some (.int .u8 ((xv 14).toNat : Int)) := HB1.out.cell 18
  have c19 : w2.cell? ⟨g, 19, none⟩ = some (.int .u8 ((xv 15).toNat : Int)) := HB1.out.cell 19
  have c20 : w2.cell? ⟨g, 20, none⟩ = some (.slice xtA xtn xtc) := HB1.out.cell 20
  have hz4 : w2.heap[g + 1]? = some (.cells #[.int .u16 0, .int .u32 0, .int .u32 0, .int .u64 0, .int .u8 0, .int .u8 0, .int .u8 0, .int .u8 0, .int .u8 0, .int .u8 0, .int .u8 0, .int .u8 0, .int .u8 0, .int .u8 0, .int .u8 0, .int .u8 0, .int .u8 0, .int .u8 0, .int .u8 0, .int .u8 0, .slice none 0 0, .slice none 0 0, .int .u8 0, .int .u8 0, .int .u32 0, .slice none 0 0, .slice none 0 0] 70 (0, 0)) := HB2.out
  have HZ4 := Lib.hid hz4
  clear hz4
  go_wp2_with (refine wpList_store_row rfl 70 _ _ rfl (g + 1) #[.int .u16 (xop : Int), .int .u32 (xa : Int), .int .u32 (xb : Int), .int .u64 (xn : Int), .int .u8 ((xv 0).toNat : Int), .int .u8 ((xv 1).toNat : Int), .int .u8 ((xv 2).toNat : Int), .int .u8 ((xv 3).toNat : Int), .int .u8 ((xv 4).toNat : Int), .int .u8 ((xv 5).toNat : Int), .int .u8 ((xv 6).toNat : Int), .int .u8 ((xv 7).toNat : Int), .int .u8 ((xv 8).toNat : Int), .int .u8 ((xv 9).toNat : Int), .int .u8 ((xv 10).toNat : Int), .int .u8 ((xv 11).toNat : Int), .int .u8 ((xv 12).toNat : Int), .int .u8 ((xv 13).toNat : Int), .int .u8 ((xv 14).toNat : Int), .int .u8 ((xv 15).toNat : Int), .slice none 0 0, .slice xtA xtn xtc, .int .u8 0, .int .u8 0, .int .u32 0, .slice none 0 0, .slice none 0 0] rfl rfl 70 #[.int .u16 0, .int .u32 0, .int .u32 0, .int .u64 0, .int .u8 0, .int .u8 0, .int .u8 0, .int .u8 0, .int .u8 0, .int .u8 0, .int .u8 0, .int .u8 0, .int .u8 0, .int .u8 0, .int .u8 0, .int .u8 0, .int .u8 0, .int .u8 0, .int .u8 0, .int .u8 0, .slice none 0 0, .slice none 0 0, .int .u8 0, .int .u8 0, .int .u32 0, .slice none 0 0, .slice none 0 0] HZ4.out (by kernel_rfl) rfl (by kernel_rfl) ?_)
  have hwf : Blk (w2.setRow (g + 1) #[.int .u16 (xop : Int), .int .u32 (xa : Int), .int .u32 (xb : Int), .int .u64 (xn : Int), .int .u8 ((xv 0).toNat : Int), .int .u8 ((xv 1).toNat : Int), .int .u8 ((xv 2).toNat : Int), .int .u8 ((xv 3).toNat : Int), .int .u8 ((xv 4).toNat : Int), .int .u8 ((xv 5).toNat : Int), .int .u8 ((xv 6).toNat : Int), .int .u8 ((xv 7).toNat : Int), .int .u8 ((xv 8).toNat : Int), .int .u8 ((xv 9).toNat : Int), .int .u8 ((xv 10).toNat : Int), .int .u8 ((xv 11).toNat : Int), .int .u8 ((xv 12).toNat : Int), .int .u8 ((xv 13).toNat : Int), .int .u8 ((xv 14).toNat : Int), .int .u8 ((xv 15).toNat : Int), .slice none 0 0, .slice xtA xtn xtc, .int .u8 0, .int .u8 0, .int .u32 0, .slice none 0 0, .slice none 0 0]) (g + 1) 70 #[.int .u16 (xop : Int), .int .u32 (xa : Int), .int .u32 (xb : Int), .int .u64 (xn : Int), .int .u8 ((xv 0).toNat : Int), .int .u8 ((xv 1).toNat : Int), .int .u8 ((xv 2).toNat : Int), .int .u8 ((xv 3).toNat : Int), .int .u8 ((xv 4).toNat : Int), .int .u8 ((xv 5).toNat : Int), .int .u8 ((xv 6).toNat : Int), .int .u8 ((xv 7).toNat : Int), .int .u8 ((xv 8).toNat : Int), .int .u8 ((xv 9).toNat : Int), .int .u8 ((xv 10).toNat : Int), .int .u8 ((xv 11).toNat : Int), .int .u8 ((xv 12).toNat : Int), .int .u8 ((xv 13).toNat : Int), .int .u8 ((xv 14).toNat : Int), .int .u8 ((xv 15).toNat : Int), .slice none 0 0, .slice xtA xtn xtc, .int .u8 0, .int .u8 0, .int .u32 0, .slice none 0 0, .slice none 0 0] := HB2.out.setRow _
  have hkf : Kept S0 w (w2.setRow (g + 1) #[.int .u16 (xop : Int), .int .u32 (xa : Int), .int .u32 (xb : Int), .int .u64 (xn : Int), .int .u8 ((xv 0).toNat : Int), .int .u8 ((xv 1).toNat : Int), .int .u8 ((xv 2).toNat : Int), .int .u8 ((xv 3).toNat : Int), .int .u8 ((xv 4).toNat : Int), .int .u8 ((xv 5).toNat : Int), .int .u8 ((xv 6).toNat : Int), .int .u8 ((xv 7).toNat : Int), .int .u8 ((xv 8).toNat : Int), .int .u8 ((xv 9).toNat : Int), .int .u8 ((xv 10).toNat : Int), .int .u8 ((xv 11).toNat : Int), .int .u8 ((xv 12).toNat : Int), .int .u8 ((xv 13).toNat : Int), .int .u8 ((xv 14).toNat : Int), .int .u8 ((xv 15).toNat : Int), .slice none 0 0, .slice xtA xtn xtc, .int .u8 0, .int .u8 0, .int .u32 0, .slice none 0 0, .slice none 0 0]) := HKA.out.setRow (.inr (by rw [hg]; exact Nat.le_succ g)) _
  refine bodyPost_ret (results_cell_row (by rfl) _ _ (g + 1) 70 #[.int .u16 (xop : Int), .int .u32 (xa : Int), .int .u32 (xb : Int), .int .u64 (xn : Int), .int .u8 ((xv 0).toNat : Int), .int .u8 ((xv 1).toNat : Int), .int .u8 ((xv 2).toNat : Int), .int .u8 ((xv 3).toNat : Int), .int .u8 ((xv 4).toNat : Int), .int .u8 ((xv 5).toNat : Int), .int .u8 ((xv 6).toNat : Int), .int .u8 ((xv 7).toNat : Int), .int .u8 ((xv 8).toNat : Int), .int .u8 ((xv 9).toNat : Int), .int .u8 ((xv 10).toNat : Int), .int .u8 ((xv 11).toNat : Int), .int .u8 ((xv 12).toNat : Int), .int .u8 ((xv 13).toNat : Int), .int .u8 ((xv 14).toNat : Int), .int .u8 ((xv 15).toNat : Int), .slice none 0 0, .slice xtA xtn xtc, .int .u8 0, .int .u8 0, .int .u32 0, .slice none 0 0, .slice none 0 0] (0, 0) _ rfl hwf Tryd.underlying70 rfl (by kernel_rfl)) rfl ?_
  exact ⟨by rw [HE.out], hkf⟩
end Go.Proofs.YtfmblalbcodpmaaDoor
namespace Go.Proofs.YtfmblalbcodpmaaDoor
open Go.RowKit
set_option maxRecDepth 100000 in
set_option maxHeartbeats 3200000 in
theorem shapeF_any (s : ByteArray) (w : World) (hs : s.size ≤ 1000) : Calls Tryd.prog 75 #[.string s] w fun e w' => e = .returned (.int .i64 (shapeN s : Int)) ∧ Kept S0 w w' := by
  have HC := Lib.hid (cut_one s dot w (by omega))
  have HS := Lib.hid (show shapeN s = shapeL (cutL s dot).toList from by rw [Lib.toList_data]; rfl)
  generalize cutL s dot = a at *
  generalize cutR s dot = b at *
  generalize cutF s dot = c at *
  go_enter Tryd.func75, Tryd.ntmps75
  go_wp2_with fail
  refine HC.out.mono ?_
  rintro e w1 ⟨rfl, hk⟩
  have HK := Lib.hid hk
  clear HC hk
  go_wp2_with fail
  all_goals
    first
      | (exfalso; simp_all; done)
      | (go_ret
         refine ⟨ret_int ?_, HK.out⟩
         rw [HS.out]
         unfold shapeL
         simp_all)
end Go.Proofs.YtfmblalbcodpmaaDoor
namespace Go.Proofs.YtfmblalbcodpmaaDoor
open Go.RowKit
def lanesI (x : FlP) (i : Inf) : Bool :=
  if i.1 = 19 then !(((vs16 x.v).map (·.toNat)).any fun t => decide (31 < t))
  else if i.1 = 17 then decide (x.b < 128 / i.2.1)
  else if i.1 = 18 then decide (x.b < i.2.2.1)
  else if i.1 = 26 then x.T.length == 1
  else true
def lanesP (x : FlP) : Bool := match inf x.op with | none => false | some i => lanesI x i
theorem inf_bits (o : Nat) (i : Inf) (h : inf o = some i) : (i.1 = 17 → 0 < i.2.1 ∧ i.2.1 ≤ 128) ∧ i.2.2.1 ≤ 16 ∧ i.2.1 ≤ 128 := by
  have hp : ∀ l : List (Option Inf), (l.all fun x => match x with | some i => (!(i.1 == 17) || (decide (0 < i.2.1) && decide (i.2.1 ≤ 128))) && decide (i.2.2.1 ≤ 16) && decide (i.2.1 ≤ 128) | none => true) = true → ∀ n i, l.getD n none = some i → (i.1 = 17 → 0 < i.2.1 ∧ i.2.1 ≤ 128) ∧ i.2.2.1 ≤ 16 ∧ i.2.1 ≤ 128 := fun l hl n i hi => by
    rw [List.getD_eq_getElem?_getD] at hi
    cases hq : l[n]? with
    | none => rw [hq] at hi; cases hi
    | some x =>
      rw [hq] at hi
      simp only [Option.getD_some] at hi
      subst hi
      have := List.all_eq_true.1 hl _ (List.mem_of_getElem? hq)
      simp only [Bool.and_eq_true, Bool.or_eq_true, Bool.not_eq_true', beq_eq_false_iff_ne, decide_eq_true_eq] at this
      exact ⟨fun e => this.1.1.resolve_left (fun h => h e), this.1.2, this.2⟩
  unfold inf at h
  split at h
  · exact hp pageA (by kernel_rfl) _ _ h
  · split at h
    · exact hp pageC (by kernel_rfl) _ _ h
    · split at h
      · exact hp pageD (by kernel_rfl) _ _ h
      · cases h
set_option maxRecDepth 100000 in
set_option maxHeartbeats 16000000 in
theorem lanes_any (f : FC) (x : FlP) (w : World) (h : FlIs w f x) (hsp : SpTab w) : Calls Tryd.prog 47 #[.agg f.arr] w fun e w' => e = .returned (.bool (lanesP x)) ∧ Kept S0 w w' := by
  have hka : Kept S0 w (w.alloc (.cells f.arr 46)) := (Kept.refl S0 w).alloc _
  have hb1 : Blk (w.alloc (.cells f.arr 46)) w.heap.size 46 f.arr := Blk.new w _ _
  have HKA := Lib.hid hka
  have HX := Lib.hid h
  have HSP := Lib.hid hsp
  have HO := Lib.hid (fun w' hs => of_any f.op w' h.opl hs)
  have hbl := h.bl
  have HOP := Lib.hid h.op
  have HBX := Lib.hid h.b
  clear hka h hsp
  unfold FC.arr at *
  obtain ⟨xop, xa, xb, xn, xv, xtA, xtn, xtc, xdst, xkeep, xheight, xlA, xln, xlc⟩ := f
  simp only at *
  have HB1 := Lib.hid hb1
  clear hb1
  go_enter Tryd.func47, Tryd.ntmps47
  go_upto_region 1 with fail
  generalize (w.alloc (.cells #[.int .u16 (xop : Int), .int .u32 (xa : Int), .int .u32 (xb : Int), .int .u64 (xn : Int), .int .u8 ((xv 0).toNat : Int), .int .u8 ((xv 1).toNat : Int), .int .u8 ((xv 2).toNat : Int), .int .u8 ((xv 3).toNat : Int), .int .u8 ((xv 4).toNat : Int), .int .u8 ((xv 5).toNat : Int), .int .u8 ((xv 6).toNat : Int), .int .u8 ((xv 7).toNat : Int), .int .u8 ((xv 8).toNat : Int), .int .u8 ((xv 9).toNat : Int), .int .u8 ((xv 10).toNat : Int), .int .u8 ((xv 11).toNat : Int), .int .u8 ((xv 12).toNat : Int), .int .u8 ((xv 13).toNat : Int), .int .u8 ((xv 14).toNat : Int), .int .u8 ((xv 15).toNat : Int), .slice xtA xtn xtc, .int .i64 xdst, .int .i64 xkeep, .int .i64 xheight, .slice xlA xln xlc] 46)) = w1 at *
  generalize hg : w.heap.size = g at *
  have e0 : w1.cell? ⟨g, 0, none⟩ = some (.int .u16 (xop : Int)) := HB1.out.cell 0
  go_wp2_with fail
  refine (HO.out w1 (HSP.out.kept0 HKA.out)).mono ?_
  rintro e w2 ⟨hk2, ⟨hi, rfl⟩ | ⟨i, name, plain, vf, vt, hi, rfl, hinf⟩⟩
  · have HE := Lib.hid (show lanesP x = false by unfold lanesP; rw [← HOP.out, hi])
    have HK := Lib.hid ((HKA.out.then0 hk2).alloc (.cells infoZ 129))
    clear hi hk2 e0
    unfold infoZ at *
    go_wp2_with fail
    go_ret
    exact ⟨ret_bool HE.out.symm, HK.out⟩
  · have hib := inf_bits _ _ hi
    have hi26 := inf_le _ _ hi
    obtain ⟨imm, bits, shp, from_, to_⟩ := i
    obtain ⟨Af, cf, rfl, _⟩ := hinf.from_.out
    obtain ⟨At, ct, rfl, _⟩ := hinf.to_.out
    simp only
    generalize from_.length = nf at *
    generalize to_.length = nt at *
    have HE := Lib.hid (show lanesP x = lanesI x (imm, bits, shp, from_, to_) by unfold lanesP; rw [← HOP.out, hi])
    have hka3 : Kept S0 w2 (w2.alloc (.cells #[.int .u16 (xop : Int), .string name, .int .u8 (imm : Int), .slice Af nf cf, .slice At nt ct, .int .i64 (bits : Int), .bool plain] 129)) := (Kept.refl S0 w2).alloc _
    have HF3 := Lib.hid (Blk.new w2 129 #[.int .u16 (xop : Int), .string name, .int .u8 (imm : Int), .slice Af nf cf, .slice At nt ct, .int .i64 (bits : Int), .bool plain])
    have HB3 := Lib.hid (hka3.blk (hk2.blk HB1.out (fun x => x)) (fun x => x))
    have HK3 := Lib.hid ((HKA.out.then0 hk2).then0 hka3)
    have HNS := Lib.hid hinf.small
    have HSH := Lib.hid (show shapeN name = shp from hinf.shape)
    have HIB := Lib.hid (show (imm = 17 → 0 < bits ∧ bits ≤ 128) ∧ shp ≤ 16 ∧ bits ≤ 128 from hib)
    have HI26 := Lib.hid (show imm ≤ 26 from hi26)
    clear hi hib hi26 hka3 hk2 hinf e0 HO
    go_upto_region 4 with fail
    generalize (w2.alloc (.cells #[.int .u16 (xop : Int), .string name, .int .u8 (imm : Int), .slice Af nf cf, .slice At nt ct, .int .i64 (bits : Int), .bool plain] 129)) = w3 at *
    generalize w2.heap.size = wi at *
    have y1 : w3.cell? ⟨wi, 1, none⟩ = some (.string name) := HF3.out.cell 1
    have y2 : w3.cell? ⟨wi, 2, none⟩ = some (.int .u8 (imm : Int)) := HF3.out.cell 2
    have y5 : w3.cell? ⟨wi, 5, none⟩ = some (.int .i64 (bits : Int)) := HF3.out.cell 5
    have z2 : w3.cell? ⟨g, 2, none⟩ = some (.int .u32 (xb : Int)) := HB3.out.cell 2
    have z20 : w3.cell? ⟨g, 20, none⟩ = some (.slice xtA xtn xtc) := HB3.out.cell 20
    have ub : IntKind.i64.wrap (xb : Int) = (xb : Int) := IntWalk.i64_in _ (by omega)
    by_cases h19 : imm = 19
    · subst h19
      have hsl : SlL w3 1 (some ⟨g, 4, none⟩) 16 16 (((vs16 xv).map (·.toNat)).map nV) := ⟨rfl, fun _ => ⟨g, 4, rfl, fun j hj => by
        rw [HB3.out.cell]
        match j, hj with
        | 0, _ => rfl
        | 1, _ => rfl
        | 2, _ => rfl
        | 3, _ => rfl
        | 4, _ => rfl
        | 5, _ => rfl
        | 6, _ => rfl
        | 7, _ => rfl
        | 8, _ => rfl
        | 9, _ => rfl
        | 10, _ => rfl
        | 11, _ => rfl
        | 12, _ => rfl
        | 13, _ => rfl
        | 14, _ => rfl
        | 15, _ => rfl
        | j + 16, hj => exact absurd hj (by omega)⟩, (fun e => by cases e), Nat.le_refl _, by decide⟩
      have HCF := Lib.hid (cfb_any (some ⟨g, 4, none⟩) 16 16 ((vs16 xv).map (·.toNat)) w3 hsl (by decide))
      have HEV := Lib.hid (show lanesP x = !(((vs16 xv).map (·.toNat)).any fun t => decide (31 < t)) by rw [HE.out]; unfold lanesI; rw [if_pos rfl, ← show xv = x.v from HX.out.v])
      clear hsl
      generalize (((vs16 xv).map (·.toNat)).any fun t => decide (31 < t)) = bb at *
      go_wp2_with (go_at_call 73; refine HCF.out.mono ?_; rintro e w5 ⟨rfl, rfl⟩)
      go_ret
      exact ⟨ret_bool HEV.out.symm, HK3.out⟩
    · by_cases h17 : imm = 17
      · have hb := HIB.out.1 h17
        subst h17
        have HEV := Lib.hid (show lanesP x = decide (xb < 128 / bits) by rw [HE.out]; unfold lanesI; rw [if_neg (show ¬ (17 : Nat) = 19 by decide), if_pos rfl, HBX.out])
        obtain ⟨q, hq⟩ : ∃ q, 128 / bits = q := ⟨_, rfl⟩
        rw [hq] at HEV
        have hq128 : q ≤ 128 := by rw [← hq]; exact Nat.div_le_self _ _
        have uq : Int.tdiv 128 (bits : Int) = (q : Int) := by rw [Int.tdiv_eq_ediv_of_nonneg (by omega)]; subst hq; rfl
        have uq2 : (128 : Int) / (bits : Int) = (q : Int) := by subst hq; rfl
        have hbz : ¬ (bits : Int) = 0 := by omega
        have hbz2 : ¬ bits = 0 := by omega
        have uw : IntKind.i64.wrap (q : Int) = (q : Int) := IntWalk.i64_in _ (by omega)
        clear hq hb h19
        go_wp2_with fail
        go_quiet (fail)
        go_wp2_with fail
        go_ret
        exact ⟨ret_bool (by rw [HEV.out, Bool.eq_iff_iff]; first | (simp; done) | (simp; omega) | skip), HK3.out.drewN _⟩
      · by_cases h18 : imm = 18
        · subst h18
          have HEV := Lib.hid (show lanesP x = decide (xb < shp) by rw [HE.out]; unfold lanesI; rw [if_neg (show ¬ (18 : Nat) = 19 by decide), if_neg (show ¬ (18 : Nat) = 17 by decide), if_pos rfl, HBX.out])
          have hsf := shapeF_any name w3.drew HNS.out
          rw [HSH.out] at hsf
          have HSF := Lib.hid hsf
          have hshp : shp ≤ 16 := HIB.out.2.1
          have hS : w3.drew.cell? ⟨g, 2, none⟩ = some (.int .u32 (xb : Int)) ∧ w3.drew.cell? ⟨wi, 1, none⟩ = some (.string name) := ⟨z2, y1⟩
          have HKD := Lib.hid HK3.out.drew
          clear h19 h17 hsf
          go_wp2_with fail
          refine wp_region_R (fun w' => w'.cell? ⟨g, 2, none⟩ = some (.int .u32 (xb : Int)) ∧ w'.cell? ⟨wi, 1, none⟩ = some (.string name)) [] (by kernel_rfl) ?_
          generalize w3.drew = w4 at *
          refine wpAnyR_take 0 (v := ?_) rfl (by kernel_rfl) (by kernel_rfl) (by kernel_rfl) (by kernel_rfl) (fun _ _ _ h => h) hS ⟨by rfl, ?_⟩ ?_
          rotate_left; (intro w hSw; (try dsimp only at hSw); first | (go_simp; done) | (go_simp; with_reducible rfl))
          simp only [List.getElem_toArray, List.getElem_cons_zero, Act.put, List.setIfInBounds_toArray, List.set_cons_zero, List.set_cons_succ]
          refine wpAnyR_take 1 (v := ?_) rfl (by kernel_rfl) (by kernel_rfl) (by kernel_rfl) (by kernel_rfl) (fun _ _ _ h => h) hS ⟨by rfl, ?_⟩ ?_
          rotate_left; (intro w hSw; (try dsimp only at hSw); first | (go_simp; done) | (go_simp; with_reducible rfl))
          simp only [List.getElem_toArray, List.getElem_cons_zero, List.getElem_cons_succ, Act.put, List.setIfInBounds_toArray, List.set_cons_zero, List.set_cons_succ]
          refine wpAnyR_take 2 (v := ?_) rfl (by kernel_rfl) (by kernel_rfl) (by kernel_rfl) (by kernel_rfl) (fun _ _ _ h => h) hS ⟨by rfl, ?_⟩ ?_
          rotate_left; (intro w hSw; (try dsimp only at hSw); first | (go_simp; done) | (go_simp; with_reducible rfl))
          simp only [List.getElem_toArray, List.getElem_cons_zero, List.getElem_cons_succ, Act.put, List.setIfInBounds_toArray, List.set_cons_zero, List.set_cons_succ]
          refine wpAnyR_take 3 (v := ?_) rfl (by kernel_rfl) (by kernel_rfl) (by kernel_rfl) (by kernel_rfl) (fun _ _ _ h => h) hS ⟨by rfl, ?_⟩ ?_
          rotate_left; (intro w hSw; (try dsimp only at hSw); first | (go_simp; done) | (go_simp; with_reducible rfl))
          simp only [List.getElem_toArray, List.getElem_cons_zero, List.getElem_cons_succ, Act.put, List.setIfInBounds_toArray, List.set_cons_zero, List.set_cons_succ]
          refine wpAnyR_take 4 (v := ?_) rfl (by kernel_rfl) (by kernel_rfl) (by kernel_rfl) (by kernel_rfl) (fun _ _ _ h => h) hS ⟨by rfl, ?_⟩ ?_
          rotate_left; (intro w hSw; (try dsimp only at hSw); first | (go_simp; done) | (go_simp; with_reducible rfl))
          simp only [List.getElem_toArray, List.getElem_cons_zero, List.getElem_cons_succ, Act.put, List.setIfInBounds_toArray, List.set_cons_zero, List.set_cons_succ]
          refine wpAnyR_one 5 rfl (by kernel_rfl) (fun K hK => ?_)
          go_simp
          go_at_call 75
          refine HSF.out.mono ?_
          rintro e w5 ⟨rfl, hk5⟩
          have hS5 : w5.cell? ⟨g, 2, none⟩ = some (.int .u32 (xb : Int)) ∧ w5.cell? ⟨wi, 1, none⟩ = some (.string name) := ⟨(hk5.cell (p := ⟨g, 2, none⟩) (World.block_lt_of_cell? _ _ hS.1) (fun x => x)).trans hS.1, (hk5.cell (p := ⟨wi, 1, none⟩) (World.block_lt_of_cell? _ _ hS.2) (fun x => x)).trans hS.2⟩
          refine hK.out _ _ (fun _ => hS5) ?_
          have HK5 := Lib.hid (HKD.out.then0 hk5)
          clear hK K hS hk5
          refine wpAnyR_take 6 (v := ?_) rfl (by kernel_rfl) (by kernel_rfl) (by kernel_rfl) (by kernel_rfl) (fun _ _ _ h => h) hS5 ⟨by rfl, ?_⟩ ?_
          rotate_left; (intro w hSw; (try dsimp only at hSw); first | (go_simp; done) | (go_simp; with_reducible rfl))
          simp only [List.getElem_toArray, List.getElem_cons_zero, List.getElem_cons_succ, Act.put, List.setIfInBounds_toArray, List.set_cons_zero, List.set_cons_succ]
          refine wpAnyR_take 7 (v := ?_) rfl (by kernel_rfl) (by kernel_rfl) (by kernel_rfl) (by kernel_rfl) (fun _ _ _ h => h) hS5 ⟨by rfl, ?_⟩ ?_
          rotate_left; (intro w hSw; (try dsimp only at hSw); first | (go_simp; done) | (go_simp; with_reducible rfl))
          simp only [List.getElem_toArray, List.getElem_cons_zero, List.getElem_cons_succ, Act.put, List.setIfInBounds_toArray, List.set_cons_zero, List.set_cons_succ]
          refine wpAnyR_done (by kernel_rfl) ?_ _
          go_wp2_with fail
          go_ret
          exact ⟨ret_bool (by rw [HEV.out, Bool.eq_iff_iff]; first | (simp; done) | (simp; omega) | skip), HK5.out⟩
        · by_cases h26 : imm = 26
          · subst h26
            have HEV := Lib.hid (show lanesP x = (xtn == 1) by
              rw [HE.out]; unfold lanesI; rw [if_neg (show ¬ (26 : Nat) = 19 by decide), if_neg (show ¬ (26 : Nat) = 17 by decide), if_neg (show ¬ (26 : Nat) = 18 by decide), if_pos rfl]
              have h9 := HX.out.t.len
              rw [List.length_map] at h9
              have h8 : x.T.length = xtn * 1 := h9
              rw [h8, Nat.mul_one])
            clear h19 h17 h18
            go_wp2_with fail
            all_goals
              go_ret
              exact ⟨ret_bool (by rw [HEV.out, Bool.eq_iff_iff]; first | (simp; done) | (simp; omega) | skip), HK3.out⟩
          · have HEV := Lib.hid (show lanesP x = true by rw [HE.out]; unfold lanesI; rw [if_neg h19, if_neg h17, if_neg h18, if_neg h26])
            have i19 : ¬ (imm : Int) = 19 := by omega
            have i17 : ¬ (imm : Int) = 17 := by omega
            have i18 : ¬ (imm : Int) = 18 := by omega
            have i26 : ¬ (imm : Int) = 26 := by omega
            go_wp2_with fail
            go_ret
            exact ⟨ret_bool HEV.out.symm, HK3.out⟩
end Go.Proofs.YtfmblalbcodpmaaDoor
namespace Go.Proofs.YtfmblalbcodpmaaDoor
open Go.RowKit
def memB (p : CtxP) : Bool := decide (0 < p.mems.length)
def thereP (p : CtxP) (a b k : Nat) : Bool :=
  if k = 4 then isP a p.funcs.length
  else if k = 5 then isP a p.types.length && isP b p.tables.length
  else if k = 6 then (localP p.locals a).isSome
  else if k = 7 then isP a p.globals.length
  else if k = 8 then isP a p.tables.length
  else if k = 11 then isP a p.tables.length && isP b p.tables.length
  else if k = 10 then isP a p.elems.length
  else if k = 9 then isP a p.elems.length && isP b p.tables.length
  else if k = 12 then isP a p.datas
  else if k = 13 then isP a p.datas && memB p
  else if k = 14 ∨ k = 15 ∨ k = 16 ∨ k = 17 then memB p
  else true
set_option maxRecDepth 100000 in
set_option maxHeartbeats 16000000 in
theorem there_any (c : CC) (p : CtxP) (x : IC) (k : Nat) (w : World) (hc : CtxAt w c p) (hle : ICle x) (hk : k ≤ 26) :
    Calls Tryd.prog 71 #[.agg c.arr, .agg x.arr, .int .u8 (k : Int)] w fun e w' => e = .returned (.bool (thereP p x.a x.b k)) ∧ Kept S0 w w' := by
  have hka : Kept S0 w ((w.alloc (.cells c.arr 30)).alloc (.cells x.arr 70)) := ((Kept.refl S0 w).alloc _).alloc _
  have hb1 : Blk ((w.alloc (.cells c.arr 30)).alloc (.cells x.arr 70)) w.heap.size 30 c.arr := (Blk.new w _ _).alloc _
  have hb2 : Blk ((w.alloc (.cells c.arr 30)).alloc (.cells x.arr 70)) (w.heap.size + 1) 70 x.arr := Blk.new1 w _ _ _
  have ha := hle.a
  have hb := hle.b
  have hlen := hc.lens
  have hdat := hc.datas
  have HC := Lib.hid hc
  have HKA := Lib.hid hka
  clear hka hc hle
  unfold IC.arr CC.arr at *
  obtain ⟨xop, xa, xb, xn, xv, xlA, xln, xlc, xtA, xtn, xtc, xbk, xbv, xbt, xbA, xbn, xbc, xeA, xen, xec⟩ := x
  obtain ⟨ctyA, ctyn, ctyc, cfuA, cfun_, cfuc, ctaA, ctan, ctac, cmeA, cmen, cmec, cglA, cgln, cglc, celA, celn, celc, cdatas, creA, cren, crec_, cloA, clon, cloc, crsA, crsn, crsc, cfixed⟩ := c
  simp only at *
  obtain ⟨rfl, rfl, rfl, rfl, rfl, rfl, rfl, hlo, hrs⟩ := hlen
  clear hrs
  subst hdat
  have HLO := Lib.hid hlo
  clear hlo
  have HB1 := Lib.hid hb1
  have HB2 := Lib.hid hb2
  clear hb1 hb2
  have hmb : decide ((0 : Int) < (p.mems.length : Int)) = memB p := by unfold memB; rw [Bool.eq_iff_iff]; simp
  go_enter Tryd.func71, Tryd.ntmps71
  go_upto_region 1 with fail
  generalize ((w.alloc (.cells #[.slice ctyA p.types.length ctyc, .slice cfuA p.funcs.length cfuc, .slice ctaA p.tables.length ctac, .slice cmeA p.mems.length cmec, .slice cglA p.globals.length cglc, .slice celA p.elems.length celc, .int .i64 p.datas, .slice creA p.refs.length crec_, .slice cloA clon cloc, .slice crsA crsn crsc, .int .i64 cfixed] 30)).alloc (.cells #[.int .u16 (xop : Int), .int .u32 (xa : Int), .int .u32 (xb : Int), .int .u64 (xn : Int), .int .u8 ((xv 0).toNat : Int), .int .u8 ((xv 1).toNat : Int), .int .u8 ((xv 2).toNat : Int), .int .u8 ((xv 3).toNat : Int), .int .u8 ((xv 4).toNat : Int), .int .u8 ((xv 5).toNat : Int), .int .u8 ((xv 6).toNat : Int), .int .u8 ((xv 7).toNat : Int), .int .u8 ((xv 8).toNat : Int), .int .u8 ((xv 9).toNat : Int), .int .u8 ((xv 10).toNat : Int), .int .u8 ((xv 11).toNat : Int), .int .u8 ((xv 12).toNat : Int), .int .u8 ((xv 13).toNat : Int), .int .u8 ((xv 14).toNat : Int), .int .u8 ((xv 15).toNat : Int), .slice xlA xln xlc, .slice xtA xtn xtc, .int .u8 (xbk : Int), .int .u8 (xbv : Int), .int .u32 (xbt : Int), .slice xbA xbn xbc, .slice xeA xen xec] 70)) = w2 at *
  generalize w.heap.size = g at *
  have d0 : w2.cell? ⟨g, 0, none⟩ = some (.slice ctyA p.types.length ctyc) := HB1.out.cell 0
  have d1 : w2.cell? ⟨g, 1, none⟩ = some (.slice cfuA p.funcs.length cfuc) := HB1.out.cell 1
  have d2 : w2.cell? ⟨g, 2, none⟩ = some (.slice ctaA p.tables.length ctac) := HB1.out.cell 2
  have d3 : w2.cell? ⟨g, 3, none⟩ = some (.slice cmeA p.mems.length cmec) := HB1.out.cell 3
  have d4 : w2.cell? ⟨g, 4, none⟩ = some (.slice cglA p.globals.length cglc) := HB1.out.cell 4
  have d5 : w2.cell? ⟨g, 5, none⟩ = some (.slice celA p.elems.length celc) := HB1.out.cell 5
  have d6 : w2.cell? ⟨g, 6, none⟩ = some (.int .i64 p.datas) := HB1.out.cell 6
  have d8 : w2.cell? ⟨g, 8, none⟩ = some (.slice cloA clon cloc) := HB1.out.cell 8
  have e1 : w2.cell? ⟨g + 1, 1, none⟩ = some (.int .u32 (xa : Int)) := HB2.out.cell 1
  have e2 : w2.cell? ⟨g + 1, 2, none⟩ = some (.int .u32 (xb : Int)) := HB2.out.cell 2
  have HA := Lib.hid (fun (m : Int) => lis_any xa m w2 ha)
  have HBB := Lib.hid (fun (m : Int) => lis_any xb m w2 hb)
  have HL := Lib.hid (local_any cloA clon cloc p.locals xa w2 (HC.out.kept0 HKA.out).locals HC.out.locok ha (by have h1 := HC.out.lens.2.2.2.2.2.2.2.1; have h2 := HC.out.le.2.2.2.2.2.2.2.1; have h3 : clon = p.locals.length := h1; omega))
  have hcases : k = 0 ∨ k = 1 ∨ k = 2 ∨ k = 3 ∨ k = 4 ∨ k = 5 ∨ k = 6 ∨ k = 7 ∨ k = 8 ∨ k = 9 ∨ k = 10 ∨ k = 11 ∨ k = 12 ∨ k = 13 ∨ k = 14 ∨ k = 15 ∨ k = 16 ∨ k = 17 ∨ k = 18 ∨ k = 19 ∨ k = 20 ∨ k = 21 ∨ k = 22 ∨ k = 23 ∨ k = 24 ∨ k = 25 ∨ k = 26 := by omega
  rcases hcases with rfl | rfl | rfl | rfl | rfl | rfl | rfl | rfl | rfl | rfl | rfl | rfl | rfl | rfl | rfl | rfl | rfl | rfl | rfl | rfl | rfl | rfl | rfl | rfl | rfl | rfl | rfl
  · go_wp2_with (go_at_call 95; refine (HA.out _).mono ?_; rintro e w' ⟨rfl, rfl⟩)
    all_goals
      go_ret
      exact ⟨ret_bool (by first | (simp [thereP, *]; done) | (rw [Bool.eq_iff_iff]; simp [thereP, *]; done) | (rw [Bool.eq_iff_iff]; simp [thereP, *]; omega)), HKA.out⟩
  · go_wp2_with (go_at_call 95; refine (HA.out _).mono ?_; rintro e w' ⟨rfl, rfl⟩)
    all_goals
      go_ret
      exact ⟨ret_bool (by first | (simp [thereP, *]; done) | (rw [Bool.eq_iff_iff]; simp [thereP, *]; done) | (rw [Bool.eq_iff_iff]; simp [thereP, *]; omega)), HKA.out⟩
  · go_wp2_with (go_at_call 95; refine (HA.out _).mono ?_; rintro e w' ⟨rfl, rfl⟩)
    all_goals
      go_ret
      exact ⟨ret_bool (by first | (simp [thereP, *]; done) | (rw [Bool.eq_iff_iff]; simp [thereP, *]; done) | (rw [Bool.eq_iff_iff]; simp [thereP, *]; omega)), HKA.out⟩
  · go_wp2_with (go_at_call 95; refine (HA.out _).mono ?_; rintro e w' ⟨rfl, rfl⟩)
    all_goals
      go_ret
      exact ⟨ret_bool (by first | (simp [thereP, *]; done) | (rw [Bool.eq_iff_iff]; simp [thereP, *]; done) | (rw [Bool.eq_iff_iff]; simp [thereP, *]; omega)), HKA.out⟩
  · go_wp2_with (go_at_call 95; refine (HA.out _).mono ?_; rintro e w' ⟨rfl, rfl⟩)
    all_goals
      go_ret
      exact ⟨ret_bool (by first | (simp [thereP, *]; done) | (rw [Bool.eq_iff_iff]; simp [thereP, *]; done) | (rw [Bool.eq_iff_iff]; simp [thereP, *]; omega)), HKA.out⟩
  · have HA2 := Lib.hid (HA.out (p.types.length))
    cases h1 : isP xa (p.types.length) with
    | false =>
      rw [h1] at HA2
      go_wp2_with fail
      refine HA2.out.mono ?_
      rintro e w' ⟨rfl, rfl⟩
      go_wp2_with fail
      go_ret
      exact ⟨ret_bool (by simp [thereP, h1]), HKA.out⟩
    | true =>
      rw [h1] at HA2
      go_wp2_with fail
      refine HA2.out.mono ?_
      rintro e w' ⟨rfl, rfl⟩
      go_wp2_with fail
      refine (HBB.out _).mono ?_
      rintro e w' ⟨rfl, rfl⟩
      go_wp2_with fail
      go_ret
      exact ⟨ret_bool (by simp [thereP, h1]), HKA.out⟩
  · cases hlp : localP p.locals xa with
    | none =>
      rw [hlp] at HL
      have HLP := Lib.hid hlp
      clear hlp
      go_wp2_with (go_at_call 14; refine HL.out.mono ?_; unfold localRet; rintro e w' ⟨rfl, hkl⟩)
      go_ret
      exact ⟨ret_bool (by have hh := HLP.out; simp [thereP, hh]), HKA.out.then0 hkl⟩
    | some tt =>
      rw [hlp] at HL
      have HLP := Lib.hid hlp
      clear hlp
      go_wp2_with (go_at_call 14; refine HL.out.mono ?_; unfold localRet; rintro e w' ⟨rfl, hkl⟩)
      go_ret
      exact ⟨ret_bool (by have hh := HLP.out; simp [thereP, hh]), HKA.out.then0 hkl⟩
  · go_wp2_with (go_at_call 95; refine (HA.out _).mono ?_; rintro e w' ⟨rfl, rfl⟩)
    all_goals
      go_ret
      exact ⟨ret_bool (by first | (simp [thereP, *]; done) | (rw [Bool.eq_iff_iff]; simp [thereP, *]; done) | (rw [Bool.eq_iff_iff]; simp [thereP, *]; omega)), HKA.out⟩
  · go_wp2_with (go_at_call 95; refine (HA.out _).mono ?_; rintro e w' ⟨rfl, rfl⟩)
    all_goals
      go_ret
      exact ⟨ret_bool (by first | (simp [thereP, *]; done) | (rw [Bool.eq_iff_iff]; simp [thereP, *]; done) | (rw [Bool.eq_iff_iff]; simp [thereP, *]; omega)), HKA.out⟩
  · have HA2 := Lib.hid (HA.out (p.elems.length))
    cases h1 : isP xa (p.elems.length) with
    | false =>
      rw [h1] at HA2
      go_wp2_with fail
      refine HA2.out.mono ?_
      rintro e w' ⟨rfl, rfl⟩
      go_wp2_with fail
      go_ret
      exact ⟨ret_bool (by simp [thereP, h1]), HKA.out⟩
    | true =>
      rw [h1] at HA2
      go_wp2_with fail
      refine HA2.out.mono ?_
      rintro e w' ⟨rfl, rfl⟩
      go_wp2_with fail
      refine (HBB.out _).mono ?_
      rintro e w' ⟨rfl, rfl⟩
      go_wp2_with fail
      go_ret
      exact ⟨ret_bool (by simp [thereP, h1]), HKA.out⟩
  · go_wp2_with (go_at_call 95; refine (HA.out _).mono ?_; rintro e w' ⟨rfl, rfl⟩)
    all_goals
      go_ret
      exact ⟨ret_bool (by first | (simp [thereP, *]; done) | (rw [Bool.eq_iff_iff]; simp [thereP, *]; done) | (rw [Bool.eq_iff_iff]; simp [thereP, *]; omega)), HKA.out⟩
  · have HA2 := Lib.hid (HA.out (p.tables.length))
    cases h1 : isP xa (p.tables.length) with
    | false =>
      rw [h1] at HA2
      go_wp2_with fail
      refine HA2.out.mono ?_
      rintro e w' ⟨rfl, rfl⟩
      go_wp2_with fail
      go_ret
      exact ⟨ret_bool (by simp [thereP, h1]), HKA.out⟩
    | true =>
      rw [h1] at HA2
      go_wp2_with fail
      refine HA2.out.mono ?_
      rintro e w' ⟨rfl, rfl⟩
      go_wp2_with fail
      refine (HBB.out _).mono ?_
      rintro e w' ⟨rfl, rfl⟩
      go_wp2_with fail
      go_ret
      exact ⟨ret_bool (by simp [thereP, h1]), HKA.out⟩
  · go_wp2_with (go_at_call 95; refine (HA.out _).mono ?_; rintro e w' ⟨rfl, rfl⟩)
    all_goals
      go_ret
      exact ⟨ret_bool (by first | (simp [thereP, *]; done) | (rw [Bool.eq_iff_iff]; simp [thereP, *]; done) | (rw [Bool.eq_iff_iff]; simp [thereP, *]; omega)), HKA.out⟩
  · go_wp2_with (go_at_call 95; refine (HA.out _).mono ?_; rintro e w' ⟨rfl, rfl⟩)
    all_goals
      go_ret
      exact ⟨ret_bool (by first | (simp [thereP, memB, *]; done) | (rw [Bool.eq_iff_iff]; simp [thereP, memB, *]; done) | (rw [Bool.eq_iff_iff]; simp [thereP, memB, *]; omega)), HKA.out⟩
  · go_wp2_with (go_at_call 95; refine (HA.out _).mono ?_; rintro e w' ⟨rfl, rfl⟩)
    all_goals
      go_ret
      exact ⟨ret_bool (by first | (simp [thereP, memB, *]; done) | (rw [Bool.eq_iff_iff]; simp [thereP, memB, *]; done) | (rw [Bool.eq_iff_iff]; simp [thereP, memB, *]; omega)), HKA.out⟩
  · go_wp2_with (go_at_call 95; refine (HA.out _).mono ?_; rintro e w' ⟨rfl, rfl⟩)
    all_goals
      go_ret
      exact ⟨ret_bool (by first | (simp [thereP, memB, *]; done) | (rw [Bool.eq_iff_iff]; simp [thereP, memB, *]; done) | (rw [Bool.eq_iff_iff]; simp [thereP, memB, *]; omega)), HKA.out⟩
  · go_wp2_with (go_at_call 95; refine (HA.out _).mono ?_; rintro e w' ⟨rfl, rfl⟩)
    all_goals
      go_ret
      exact ⟨ret_bool (by first | (simp [thereP, memB, *]; done) | (rw [Bool.eq_iff_iff]; simp [thereP, memB, *]; done) | (rw [Bool.eq_iff_iff]; simp [thereP, memB, *]; omega)), HKA.out⟩
  · go_wp2_with (go_at_call 95; refine (HA.out _).mono ?_; rintro e w' ⟨rfl, rfl⟩)
    all_goals
      go_ret
      exact ⟨ret_bool (by first | (simp [thereP, memB, *]; done) | (rw [Bool.eq_iff_iff]; simp [thereP, memB, *]; done) | (rw [Bool.eq_iff_iff]; simp [thereP, memB, *]; omega)), HKA.out⟩
  · go_wp2_with (go_at_call 95; refine (HA.out _).mono ?_; rintro e w' ⟨rfl, rfl⟩)
    all_goals
      go_ret
      exact ⟨ret_bool (by first | (simp [thereP, *]; done) | (rw [Bool.eq_iff_iff]; simp [thereP, *]; done) | (rw [Bool.eq_iff_iff]; simp [thereP, *]; omega)), HKA.out⟩
  · go_wp2_with (go_at_call 95; refine (HA.out _).mono ?_; rintro e w' ⟨rfl, rfl⟩)
    all_goals
      go_ret
      exact ⟨ret_bool (by first | (simp [thereP, *]; done) | (rw [Bool.eq_iff_iff]; simp [thereP, *]; done) | (rw [Bool.eq_iff_iff]; simp [thereP, *]; omega)), HKA.out⟩
  · go_wp2_with (go_at_call 95; refine (HA.out _).mono ?_; rintro e w' ⟨rfl, rfl⟩)
    all_goals
      go_ret
      exact ⟨ret_bool (by first | (simp [thereP, *]; done) | (rw [Bool.eq_iff_iff]; simp [thereP, *]; done) | (rw [Bool.eq_iff_iff]; simp [thereP, *]; omega)), HKA.out⟩
  · go_wp2_with (go_at_call 95; refine (HA.out _).mono ?_; rintro e w' ⟨rfl, rfl⟩)
    all_goals
      go_ret
      exact ⟨ret_bool (by first | (simp [thereP, *]; done) | (rw [Bool.eq_iff_iff]; simp [thereP, *]; done) | (rw [Bool.eq_iff_iff]; simp [thereP, *]; omega)), HKA.out⟩
  · go_wp2_with (go_at_call 95; refine (HA.out _).mono ?_; rintro e w' ⟨rfl, rfl⟩)
    all_goals
      go_ret
      exact ⟨ret_bool (by first | (simp [thereP, *]; done) | (rw [Bool.eq_iff_iff]; simp [thereP, *]; done) | (rw [Bool.eq_iff_iff]; simp [thereP, *]; omega)), HKA.out⟩
  · go_wp2_with (go_at_call 95; refine (HA.out _).mono ?_; rintro e w' ⟨rfl, rfl⟩)
    all_goals
      go_ret
      exact ⟨ret_bool (by first | (simp [thereP, *]; done) | (rw [Bool.eq_iff_iff]; simp [thereP, *]; done) | (rw [Bool.eq_iff_iff]; simp [thereP, *]; omega)), HKA.out⟩
  · go_wp2_with (go_at_call 95; refine (HA.out _).mono ?_; rintro e w' ⟨rfl, rfl⟩)
    all_goals
      go_ret
      exact ⟨ret_bool (by first | (simp [thereP, *]; done) | (rw [Bool.eq_iff_iff]; simp [thereP, *]; done) | (rw [Bool.eq_iff_iff]; simp [thereP, *]; omega)), HKA.out⟩
  · go_wp2_with (go_at_call 95; refine (HA.out _).mono ?_; rintro e w' ⟨rfl, rfl⟩)
    all_goals
      go_ret
      exact ⟨ret_bool (by first | (simp [thereP, *]; done) | (rw [Bool.eq_iff_iff]; simp [thereP, *]; done) | (rw [Bool.eq_iff_iff]; simp [thereP, *]; omega)), HKA.out⟩
  · go_wp2_with (go_at_call 95; refine (HA.out _).mono ?_; rintro e w' ⟨rfl, rfl⟩)
    all_goals
      go_ret
      exact ⟨ret_bool (by first | (simp [thereP, *]; done) | (rw [Bool.eq_iff_iff]; simp [thereP, *]; done) | (rw [Bool.eq_iff_iff]; simp [thereP, *]; omega)), HKA.out⟩
end Go.Proofs.YtfmblalbcodpmaaDoor
namespace Go.Proofs.YtfmblalbcodpmaaDoor
open Go.RowKit
theorem ret_ints2 {k l : IntKind} {a b c d : Int} (h1 : a = c) (h2 : b = d) : Ending.returned (.tuple #[.int k a, .int l b]) = .returned (.tuple #[.int k c, .int l d]) := by rw [h1, h2]
/-- How many values it takes, and leaves. -/
def effectP (p : CtxP) (op a nf nt : Nat) : Nat × Nat :=
  if op = 16 then ((p.funcs.getD a ([], [])).1.length, (p.funcs.getD a ([], [])).2.length)
  else if op = 17 then ((p.types.getD a ([], [])).1.length + 1, (p.types.getD a ([], [])).2.length)
  else if op = 26 ∨ op = 33 ∨ op = 36 then (1, 0)
  else if op = 27 ∨ op = 28 then (3, 1)
  else if op = 32 ∨ op = 35 ∨ op = 64528 ∨ op = 208 ∨ op = 210 then (0, 1)
  else if op = 34 ∨ op = 37 ∨ op = 209 then (1, 1)
  else if op = 38 then (2, 0)
  else if op = 64527 then (2, 1)
  else if op = 64524 ∨ op = 64526 ∨ op = 64529 then (3, 0)
  else (nf, nt)
set_option maxRecDepth 100000 in
set_option maxHeartbeats 16000000 in
theorem effect_any (c : CC) (p : CtxP) (x : IC) (o2 : Nat) (name : ByteArray) (imm : Nat) (Af : Option Addr) (nf cf : Nat) (At : Option Addr) (nt ct bits : Nat) (plain : Bool) (w : World) (hc : CtxAt w c p) (h16 : x.op = 16 → x.a < p.funcs.length) (h17 : x.op = 17 → x.a < p.types.length) :
    Calls Tryd.prog 72 #[.agg c.arr, .agg x.arr, .agg #[.int .u16 (o2 : Int), .string name, .int .u8 (imm : Int), .slice Af nf cf, .slice At nt ct, .int .i64 (bits : Int), .bool plain]] w fun e w' => e = .returned (.tuple #[.int .i64 ((effectP p x.op x.a nf nt).1 : Int), .int .i64 ((effectP p x.op x.a nf nt).2 : Int)]) ∧ Kept S0 w w' := by
  have hka : Kept S0 w (((w.alloc (.cells c.arr 30)).alloc (.cells x.arr 70)).alloc (.cells #[.int .u16 (o2 : Int), .string name, .int .u8 (imm : Int), .slice Af nf cf, .slice At nt ct, .int .i64 (bits : Int), .bool plain] 129)) := (((Kept.refl S0 w).alloc _).alloc _).alloc _
  have hb1 : Blk (((w.alloc (.cells c.arr 30)).alloc (.cells x.arr 70)).alloc (.cells #[.int .u16 (o2 : Int), .string name, .int .u8 (imm : Int), .slice Af nf cf, .slice At nt ct, .int .i64 (bits : Int), .bool plain] 129)) w.heap.size 30 c.arr := ((Blk.new w _ _).alloc _).alloc _
  have hb2 : Blk (((w.alloc (.cells c.arr 30)).alloc (.cells x.arr 70)).alloc (.cells #[.int .u16 (o2 : Int), .string name, .int .u8 (imm : Int), .slice Af nf cf, .slice At nt ct, .int .i64 (bits : Int), .bool plain] 129)) (w.heap.size + 1) 70 x.arr := (Blk.new1 w _ _ _).alloc _
  have hb3 : Blk (((w.alloc (.cells c.arr 30)).alloc (.cells x.arr 70)).alloc (.cells #[.int .u16 (o2 : Int), .string name, .int .u8 (imm : Int), .slice Af nf cf, .slice At nt ct, .int .i64 (bits : Int), .bool plain] 129)) (w.heap.size + 1 + 1) 129 #[.int .u16 (o2 : Int), .string name, .int .u8 (imm : Int), .slice Af nf cf, .slice At nt ct, .int .i64 (bits : Int), .bool plain] := by
    have h := Blk.new1 (w.alloc (.cells c.arr 30)) (.cells x.arr 70) 129 #[.int .u16 (o2 : Int), .string name, .int .u8 (imm : Int), .slice Af nf cf, .slice At nt ct, .int .i64 (bits : Int), .bool plain]
    have e : (w.alloc (.cells c.arr 30)).heap.size = w.heap.size + 1 := by simp
    rwa [e] at h
  have HC := Lib.hid (hc.kept0 hka)
  have HKA := Lib.hid hka
  have H16 := Lib.hid h16
  have H17 := Lib.hid h17
  clear hka hc h16 h17
  unfold IC.arr CC.arr at *
  obtain ⟨xop, xa, xb, xn, xv, xlA, xln, xlc, xtA, xtn, xtc, xbk, xbv, xbt, xbA, xbn, xbc, xeA, xen, xec⟩ := x
  obtain ⟨ctyA, ctyn, ctyc, cfuA, cfun_, cfuc, ctaA, ctan, ctac, cmeA, cmen, cmec, cglA, cgln, cglc, celA, celn, celc, cdatas, creA, cren, crec_, cloA, clon, cloc, crsA, crsn, crsc, cfixed⟩ := c
  simp only at *
  have HB1 := Lib.hid hb1
  have HB2 := Lib.hid hb2
  have HB3 := Lib.hid hb3
  clear hb1 hb2 hb3
  go_enter Tryd.func72, Tryd.ntmps72
  go_upto_region 1 with fail
  generalize (((w.alloc (.cells #[.slice ctyA ctyn ctyc, .slice cfuA cfun_ cfuc, .slice ctaA ctan ctac, .slice cmeA cmen cmec, .slice cglA cgln cglc, .slice celA celn celc, .int .i64 cdatas, .slice creA cren crec_, .slice cloA clon cloc, .slice crsA crsn crsc, .int .i64 cfixed] 30)).alloc (.cells #[.int .u16 (xop : Int), .int .u32 (xa : Int), .int .u32 (xb : Int), .int .u64 (xn : Int), .int .u8 ((xv 0).toNat : Int), .int .u8 ((xv 1).toNat : Int), .int .u8 ((xv 2).toNat : Int), .int .u8 ((xv 3).toNat : Int), .int .u8 ((xv 4).toNat : Int), .int .u8 ((xv 5).toNat : Int), .int .u8 ((xv 6).toNat : Int), .int .u8 ((xv 7).toNat : Int), .int .u8 ((xv 8).toNat : Int), .int .u8 ((xv 9).toNat : Int), .int .u8 ((xv 10).toNat : Int), .int .u8 ((xv 11).toNat : Int), .int .u8 ((xv 12).toNat : Int), .int .u8 ((xv 13).toNat : Int), .int .u8 ((xv 14).toNat : Int), .int .u8 ((xv 15).toNat : Int), .slice xlA xln xlc, .slice xtA xtn xtc, .int .u8 (xbk : Int), .int .u8 (xbv : Int), .int .u32 (xbt : Int), .slice xbA xbn xbc, .slice xeA xen xec] 70)).alloc (.cells #[.int .u16 (o2 : Int), .string name, .int .u8 (imm : Int), .slice Af nf cf, .slice At nt ct, .int .i64 (bits : Int), .bool plain] 129)) = w2 at *
  generalize w.heap.size = g at *
  have d0 : w2.cell? ⟨g, 0, none⟩ = some (.slice ctyA ctyn ctyc) := HB1.out.cell 0
  have d1 : w2.cell? ⟨g, 1, none⟩ = some (.slice cfuA cfun_ cfuc) := HB1.out.cell 1
  have e0 : w2.cell? ⟨g + 1, 0, none⟩ = some (.int .u16 (xop : Int)) := HB2.out.cell 0
  have e1 : w2.cell? ⟨g + 1, 1, none⟩ = some (.int .u32 (xa : Int)) := HB2.out.cell 1
  have f3 : w2.cell? ⟨g + 1 + 1, 3, none⟩ = some (.slice Af nf cf) := HB3.out.cell 3
  have f4 : w2.cell? ⟨g + 1 + 1, 4, none⟩ = some (.slice At nt ct) := HB3.out.cell 4
  by_cases h16 : xop = 16
  · have hlt := H16.out h16
    subst h16
    obtain ⟨b, o, rfl, hg⟩ := HC.out.funcs.at_ (by have := HC.out.funcs.len; show 0 < cfun_; have h9 : cfun_ = p.funcs.length := this; omega)
    have hln : cfun_ = p.funcs.length := HC.out.funcs.len
    obtain ⟨pA, pn, pc, rA, rn, rc, h1, h2, h3, h4, hpb1, hpb2⟩ := hg xa _ (List.getElem?_eq_getElem hlt)
    have hE : effectP p 16 xa nf nt = ((p.funcs[xa]).1.length, (p.funcs[xa]).2.length) := by
      unfold effectP
      simp [List.getD_eq_getElem?_getD, List.getElem?_eq_getElem hlt]
    have hp : pn = (p.funcs[xa]).1.length := by have := h3.len; rw [List.length_map] at this; omega
    have hr : rn = (p.funcs[xa]).2.length := by have := h4.len; rw [List.length_map] at this; omega
    rw [← hp, ← hr] at hE
    have HE := Lib.hid hE
    have hai : (xa : Int) < (cfun_ : Int) := by omega
    have han : xa < cfun_ := by omega
    clear hE hp hr h3 h4 hg hlt hln
    go_wp2_with fail
    go_quiet (fail)
    go_wp2_with fail
    go_ret2
    exact ⟨ret_ints2 (by rw [HE.out]) (by rw [HE.out]), (HKA.out.alloc _).drewN _⟩
  by_cases h17 : xop = 17
  · have hlt := H17.out h17
    subst h17
    obtain ⟨b, o, rfl, hg⟩ := HC.out.types.at_ (by have := HC.out.types.len; show 0 < ctyn; have h9 : ctyn = p.types.length := this; omega)
    have hln : ctyn = p.types.length := HC.out.types.len
    obtain ⟨pA, pn, pc, rA, rn, rc, h1, h2, h3, h4, hpb1, hpb2⟩ := hg xa _ (List.getElem?_eq_getElem hlt)
    have hE : effectP p 17 xa nf nt = ((p.types[xa]).1.length + 1, (p.types[xa]).2.length) := by
      unfold effectP
      simp [List.getD_eq_getElem?_getD, List.getElem?_eq_getElem hlt]
    have hp : pn = (p.types[xa]).1.length := by have := h3.len; rw [List.length_map] at this; omega
    have hr : rn = (p.types[xa]).2.length := by have := h4.len; rw [List.length_map] at this; omega
    rw [← hp, ← hr] at hE
    have HE := Lib.hid hE
    have hai : (xa : Int) < (ctyn : Int) := by omega
    have han : xa < ctyn := by omega
    clear hE hp hr h3 h4 hg hlt hln
    have up : IntKind.i64.wrap ((pn : Int) + 1) = (pn : Int) + 1 := IntWalk.i64_in _ (by omega)
    go_wp2_with fail
    go_quiet (fail)
    go_wp2_with fail
    go_ret2
    exact ⟨ret_ints2 (by rw [HE.out]; rfl) (by rw [HE.out]), (HKA.out.alloc _).drewN _⟩
  by_cases h26 : xop = 26
  · subst h26
    go_wp2_with fail
    go_ret2
    exact ⟨rfl, HKA.out⟩
  by_cases h33 : xop = 33
  · subst h33
    go_wp2_with fail
    go_ret2
    exact ⟨rfl, HKA.out⟩
  by_cases h36 : xop = 36
  · subst h36
    go_wp2_with fail
    go_ret2
    exact ⟨rfl, HKA.out⟩
  by_cases h27 : xop = 27
  · subst h27
    go_wp2_with fail
    go_ret2
    exact ⟨rfl, HKA.out⟩
  by_cases h28 : xop = 28
  · subst h28
    go_wp2_with fail
    go_ret2
    exact ⟨rfl, HKA.out⟩
  by_cases h32 : xop = 32
  · subst h32
    go_wp2_with fail
    go_ret2
    exact ⟨rfl, HKA.out⟩
  by_cases h35 : xop = 35
  · subst h35
    go_wp2_with fail
    go_ret2
    exact ⟨rfl, HKA.out⟩
  by_cases h64528 : xop = 64528
  · subst h64528
    go_wp2_with fail
    go_ret2
    exact ⟨rfl, HKA.out⟩
  by_cases h208 : xop = 208
  · subst h208
    go_wp2_with fail
    go_ret2
    exact ⟨rfl, HKA.out⟩
  by_cases h210 : xop = 210
  · subst h210
    go_wp2_with fail
    go_ret2
    exact ⟨rfl, HKA.out⟩
  by_cases h34 : xop = 34
  · subst h34
    go_wp2_with fail
    go_ret2
    exact ⟨rfl, HKA.out⟩
  by_cases h37 : xop = 37
  · subst h37
    go_wp2_with fail
    go_ret2
    exact ⟨rfl, HKA.out⟩
  by_cases h209 : xop = 209
  · subst h209
    go_wp2_with fail
    go_ret2
    exact ⟨rfl, HKA.out⟩
  by_cases h38 : xop = 38
  · subst h38
    go_wp2_with fail
    go_ret2
    exact ⟨rfl, HKA.out⟩
  by_cases h64527 : xop = 64527
  · subst h64527
    go_wp2_with fail
    go_ret2
    exact ⟨rfl, HKA.out⟩
  by_cases h64524 : xop = 64524
  · subst h64524
    go_wp2_with fail
    go_ret2
    exact ⟨rfl, HKA.out⟩
  by_cases h64526 : xop = 64526
  · subst h64526
    go_wp2_with fail
    go_ret2
    exact ⟨rfl, HKA.out⟩
  by_cases h64529 : xop = 64529
  · subst h64529
    go_wp2_with fail
    go_ret2
    exact ⟨rfl, HKA.out⟩
  have i16 : ¬ (xop : Int) = 16 := by omega
  have i17 : ¬ (xop : Int) = 17 := by omega
  have i26 : ¬ (xop : Int) = 26 := by omega
  have i33 : ¬ (xop : Int) = 33 := by omega
  have i36 : ¬ (xop : Int) = 36 := by omega
  have i27 : ¬ (xop : Int) = 27 := by omega
  have i28 : ¬ (xop : Int) = 28 := by omega
  have i32 : ¬ (xop : Int) = 32 := by omega
  have i35 : ¬ (xop : Int) = 35 := by omega
  have i64528 : ¬ (xop : Int) = 64528 := by omega
  have i208 : ¬ (xop : Int) = 208 := by omega
  have i210 : ¬ (xop : Int) = 210 := by omega
  have i34 : ¬ (xop : Int) = 34 := by omega
  have i37 : ¬ (xop : Int) = 37 := by omega
  have i209 : ¬ (xop : Int) = 209 := by omega
  have i38 : ¬ (xop : Int) = 38 := by omega
  have i64527 : ¬ (xop : Int) = 64527 := by omega
  have i64524 : ¬ (xop : Int) = 64524 := by omega
  have i64526 : ¬ (xop : Int) = 64526 := by omega
  have i64529 : ¬ (xop : Int) = 64529 := by omega
  go_wp2_with fail
  go_quiet (fail)
  go_wp2_with fail
  go_ret2
  exact ⟨by unfold effectP; simp [h16, h17, h26, h33, h36, h27, h28, h32, h35, h64528, h208, h210, h34, h37, h209, h38, h64527, h64524, h64526, h64529], HKA.out.drewN _⟩
end Go.Proofs.YtfmblalbcodpmaaDoor
namespace Go.Proofs.YtfmblalbcodpmaaDoor
open Go.RowKit
def isGoing (o : Nat) : Bool := o == 0 || o == 12 || o == 13 || o == 14 || o == 15
def EffectP (p : CtxP) (x : Ins) (bd el : Fo) : Nat × Nat × Nat :=
  match inf x.op with
  | none => (0, 0, 2)
  | some i =>
    if i.1 = 1 then (0, 0, 2)
    else if mayP (.cons x bd el .nil) = false then (0, 0, 2)
    else if isGoing x.op = true then (0, 0, 2)
    else if thereP p x.a x.b i.1 = false then (0, 0, 5)
    else ((effectP p x.op x.a i.2.2.2.1.length i.2.2.2.2.length).1, (effectP p x.op x.a i.2.2.2.1.length i.2.2.2.2.length).2, 0)
theorem isP_lt {n m : Nat} (h : isP n (m : Int) = true) (hm : m ≤ 140737488355328) : n < m := by
  unfold isP at h
  simp only [decide_eq_true_eq] at h
  omega
/-- A list of one instruction. -/
theorem SlF.one {w : World} {i : IC} {x : Ins} {bd el : Fo} (h : InsIs w i x bd el) : SlF (w.alloc (.cells i.arr 70)) (some ⟨w.heap.size, 0, none⟩) 1 1 (.cons x bd el .nil) := by
  have hk : Kept S0 w (w.alloc (.cells i.arr 70)) := (Kept.refl S0 w).alloc _
  have h2 := h.kept0 hk
  refine ⟨rfl, Nat.le_refl _, by decide, fun _ => ⟨w.heap.size, 0, rfl, ⟨i, h2.of, h2.le, fun j _ => ?_, h2.ins, ⟨h2.body.len, h2.body.le, h2.body.cm, h2.body.at_⟩, ⟨h2.els.len, h2.els.le, h2.els.cm, h2.els.at_⟩⟩, trivial⟩⟩
  rw [Nat.zero_add]
  exact (Blk.new w 70 i.arr).cell j
def tri (t : Nat × Nat × Nat) : Value := .tuple #[.int .i64 (t.1 : Int), .int .i64 (t.2.1 : Int), .int .i64 (t.2.2 : Int)]
set_option maxRecDepth 100000 in
set_option maxHeartbeats 16000000 in
theorem eff_any (c : CC) (p : CtxP) (x : IC) (X : Ins) (bd el : Fo) (w : World) (hc : CtxAt w c p) (hx : InsIs w x X bd el) (hcount : bd.count + el.count ≤ 500000000) (hsp : SpTab w) :
    Calls Tryd.prog 45 #[.agg c.arr, .agg x.arr] w fun e w' => e = .returned (tri (EffectP p X bd el)) ∧ Kept S0 w w' := by
  have hka : Kept S0 w ((w.alloc (.cells c.arr 30)).alloc (.cells x.arr 70)) := ((Kept.refl S0 w).alloc _).alloc _
  have hb1 : Blk ((w.alloc (.cells c.arr 30)).alloc (.cells x.arr 70)) w.heap.size 30 c.arr := (Blk.new w _ _).alloc _
  have hb2 : Blk ((w.alloc (.cells c.arr 30)).alloc (.cells x.arr 70)) (w.heap.size + 1) 70 x.arr := Blk.new1 w _ _ _
  have HC := Lib.hid hc
  have HX := Lib.hid hx
  have HKA := Lib.hid hka
  have HSP := Lib.hid hsp
  have hop := hx.le.op
  have HO := Lib.hid (fun w' hs => of_any x.op w' hop hs)
  have HOP := Lib.hid hx.of.op
  have HAB := Lib.hid (And.intro hx.of.a hx.of.b)
  clear hka hc hx hsp
  have HCA := Lib.hid (show c.arr = c.arr from rfl)
  obtain ⟨xop, xa, xb, xn, xv, xlA, xln, xlc, xtA, xtn, xtc, xbk, xbv, xbt, xbA, xbn, xbc, xeA, xen, xec⟩ := x
  obtain ⟨ctyA, ctyn, ctyc, cfuA, cfun_, cfuc, ctaA, ctan, ctac, cmeA, cmen, cmec, cglA, cgln, cglc, celA, celn, celc, cdatas, creA, cren, crec_, cloA, clon, cloc, crsA, crsn, crsc, cfixed⟩ := c
  unfold IC.arr CC.arr at *
  simp only at *
  clear HCA
  have HB1 := Lib.hid hb1
  have HB2 := Lib.hid hb2
  clear hb1 hb2
  go_enter Tryd.func45, Tryd.ntmps45
  go_upto_region 1 with fail
  generalize ((w.alloc (.cells #[.slice ctyA ctyn ctyc, .slice cfuA cfun_ cfuc, .slice ctaA ctan ctac, .slice cmeA cmen cmec, .slice cglA cgln cglc, .slice celA celn celc, .int .i64 cdatas, .slice creA cren crec_, .slice cloA clon cloc, .slice crsA crsn crsc, .int .i64 cfixed] 30)).alloc (.cells #[.int .u16 (xop : Int), .int .u32 (xa : Int), .int .u32 (xb : Int), .int .u64 (xn : Int), .int .u8 ((xv 0).toNat : Int), .int .u8 ((xv 1).toNat : Int), .int .u8 ((xv 2).toNat : Int), .int .u8 ((xv 3).toNat : Int), .int .u8 ((xv 4).toNat : Int), .int .u8 ((xv 5).toNat : Int), .int .u8 ((xv 6).toNat : Int), .int .u8 ((xv 7).toNat : Int), .int .u8 ((xv 8).toNat : Int), .int .u8 ((xv 9).toNat : Int), .int .u8 ((xv 10).toNat : Int), .int .u8 ((xv 11).toNat : Int), .int .u8 ((xv 12).toNat : Int), .int .u8 ((xv 13).toNat : Int), .int .u8 ((xv 14).toNat : Int), .int .u8 ((xv 15).toNat : Int), .slice xlA xln xlc, .slice xtA xtn xtc, .int .u8 (xbk : Int), .int .u8 (xbv : Int), .int .u32 (xbt : Int), .slice xbA xbn xbc, .slice xeA xen xec] 70)) = w2 at *
  generalize hg : w.heap.size = g at *
  have e0 : w2.cell? ⟨g + 1, 0, none⟩ = some (.int .u16 (xop : Int)) := HB2.out.cell 0
  have HGL := Lib.hid (show g + 1 < w2.heap.size from HB2.out.lt)
  go_wp2_with fail
  refine (HO.out w2 (HSP.out.kept0 HKA.out)).mono ?_
  rintro e w3 ⟨hk3, ⟨hi, rfl⟩ | ⟨i, name, plain, vf, vt, hi, rfl, hinf⟩⟩
  · have HE := Lib.hid (show EffectP p X bd el = (0, 0, 2) by unfold EffectP; rw [← HOP.out, hi])
    have HK := Lib.hid ((HKA.out.then0 hk3).alloc (.cells infoZ 129))
    clear hi hk3 e0
    unfold infoZ at *
    go_wp2_with fail
    go_ret3
    exact ⟨by rw [HE.out]; rfl, HK.out⟩
  · obtain ⟨imm, bits, shp, from_, to_⟩ := i
    obtain ⟨Af, cf, rfl, _⟩ := hinf.from_.out
    obtain ⟨At, ct, rfl, _⟩ := hinf.to_.out
    simp only
    obtain ⟨nf, hnf⟩ : ∃ nf, from_.length = nf := ⟨_, rfl⟩
    obtain ⟨nt, hnt⟩ : ∃ nt, to_.length = nt := ⟨_, rfl⟩
    rw [hnf, hnt]
    have hi26 := inf_le _ _ hi
    have HI := Lib.hid (show inf X.op = some (imm, bits, shp, from_, to_) from HOP.out ▸ hi)
    have HI26 := Lib.hid (show imm ≤ 26 from hi26)
    have HNF := Lib.hid (And.intro hnf hnt)
    have hka4 : Kept S0 w3 (w3.alloc (.cells #[.int .u16 (xop : Int), .string name, .int .u8 (imm : Int), .slice Af nf cf, .slice At nt ct, .int .i64 (bits : Int), .bool plain] 129)) := (Kept.refl S0 w3).alloc _
    have HF4 := Lib.hid (Blk.new w3 129 #[.int .u16 (xop : Int), .string name, .int .u8 (imm : Int), .slice Af nf cf, .slice At nt ct, .int .i64 (bits : Int), .bool plain])
    have HB14 := Lib.hid (hka4.blk (hk3.blk HB1.out (fun x => x)) (fun x => x))
    have HB24 := Lib.hid (hka4.blk (hk3.blk HB2.out (fun x => x)) (fun x => x))
    have HK4 := Lib.hid ((HKA.out.then0 hk3).then0 hka4)
    have HG3 := Lib.hid (Nat.lt_of_lt_of_le HGL.out hk3.size)
    have y0 : (w3.alloc (.cells #[.int .u16 (xop : Int), .string name, .int .u8 (imm : Int), .slice Af nf cf, .slice At nt ct, .int .i64 (bits : Int), .bool plain] 129)).cell? ⟨g + 1, 0, none⟩ = some (.int .u16 (xop : Int)) := HB24.out.cell 0
    have y2 : (w3.alloc (.cells #[.int .u16 (xop : Int), .string name, .int .u8 (imm : Int), .slice Af nf cf, .slice At nt ct, .int .i64 (bits : Int), .bool plain] 129)).cell? ⟨w3.heap.size, 2, none⟩ = some (.int .u8 (imm : Int)) := HF4.out.cell 2
    clear hi hi26 hinf hnf hnt hka4 hk3 HO e0
    by_cases him : imm = 1
    · have HE := Lib.hid (show EffectP p X bd el = (0, 0, 2) by unfold EffectP; rw [HI.out]; exact if_pos him)
      have hq : ((imm : Int) == 1) = true := by simp; omega
      have HH := Lib.hid him
      clear him
      go_wp2_with fail
      all_goals first | (exfalso; have := HH.out; omega) | skip
      go_ret3
      exact ⟨by rw [HE.out]; rfl, HK4.out⟩
    · have hq : ((imm : Int) == 1) = false := by simp; omega
      have hq2 : ¬ (imm : Int) = 1 := by omega
      go_upto_region 2 with fail
      generalize (w3.alloc (.cells #[.int .u16 (xop : Int), .string name, .int .u8 (imm : Int), .slice Af nf cf, .slice At nt ct, .int .i64 (bits : Int), .bool plain] 129)) = w4 at *
      generalize w3.heap.size = wi at *
      have hz5 := (Kept.refl S0 w4).alloc (.cells #[.int .u16 (xop : Int), .int .u32 (xa : Int), .int .u32 (xb : Int), .int .u64 (xn : Int), .int .u8 ((xv 0).toNat : Int), .int .u8 ((xv 1).toNat : Int), .int .u8 ((xv 2).toNat : Int), .int .u8 ((xv 3).toNat : Int), .int .u8 ((xv 4).toNat : Int), .int .u8 ((xv 5).toNat : Int), .int .u8 ((xv 6).toNat : Int), .int .u8 ((xv 7).toNat : Int), .int .u8 ((xv 8).toNat : Int), .int .u8 ((xv 9).toNat : Int), .int .u8 ((xv 10).toNat : Int), .int .u8 ((xv 11).toNat : Int), .int .u8 ((xv 12).toNat : Int), .int .u8 ((xv 13).toNat : Int), .int .u8 ((xv 14).toNat : Int), .int .u8 ((xv 15).toNat : Int), .slice xlA xln xlc, .slice xtA xtn xtc, .int .u8 (xbk : Int), .int .u8 (xbv : Int), .int .u32 (xbt : Int), .slice xbA xbn xbc, .slice xeA xen xec] 70)
      have hs5 := SlF.one (HX.out.kept0 HK4.out)
      have HM := Lib.hid (may_any (some ⟨w4.heap.size, 0, none⟩) 1 1 (.cons X bd el .nil) (w4.alloc (.cells #[.int .u16 (xop : Int), .int .u32 (xa : Int), .int .u32 (xb : Int), .int .u64 (xn : Int), .int .u8 ((xv 0).toNat : Int), .int .u8 ((xv 1).toNat : Int), .int .u8 ((xv 2).toNat : Int), .int .u8 ((xv 3).toNat : Int), .int .u8 ((xv 4).toNat : Int), .int .u8 ((xv 5).toNat : Int), .int .u8 ((xv 6).toNat : Int), .int .u8 ((xv 7).toNat : Int), .int .u8 ((xv 8).toNat : Int), .int .u8 ((xv 9).toNat : Int), .int .u8 ((xv 10).toNat : Int), .int .u8 ((xv 11).toNat : Int), .int .u8 ((xv 12).toNat : Int), .int .u8 ((xv 13).toNat : Int), .int .u8 ((xv 14).toNat : Int), .int .u8 ((xv 15).toNat : Int), .slice xlA xln xlc, .slice xtA xtn xtc, .int .u8 (xbk : Int), .int .u8 (xbv : Int), .int .u32 (xbt : Int), .slice xbA xbn xbc, .slice xeA xen xec] 70)) hs5 (by show 1 + bd.count + el.count + 0 ≤ _; omega) (HSP.out.kept0 (HK4.out.then0 hz5)))
      have HZ5 := Lib.hid hz5
      clear hz5 hs5
      have hx4 : ∀ j, j < (#[.int .u16 (xop : Int), .int .u32 (xa : Int), .int .u32 (xb : Int), .int .u64 (xn : Int), .int .u8 ((xv 0).toNat : Int), .int .u8 ((xv 1).toNat : Int), .int .u8 ((xv 2).toNat : Int), .int .u8 ((xv 3).toNat : Int), .int .u8 ((xv 4).toNat : Int), .int .u8 ((xv 5).toNat : Int), .int .u8 ((xv 6).toNat : Int), .int .u8 ((xv 7).toNat : Int), .int .u8 ((xv 8).toNat : Int), .int .u8 ((xv 9).toNat : Int), .int .u8 ((xv 10).toNat : Int), .int .u8 ((xv 11).toNat : Int), .int .u8 ((xv 12).toNat : Int), .int .u8 ((xv 13).toNat : Int), .int .u8 ((xv 14).toNat : Int), .int .u8 ((xv 15).toNat : Int), .slice xlA xln xlc, .slice xtA xtn xtc, .int .u8 (xbk : Int), .int .u8 (xbv : Int), .int .u32 (xbt : Int), .slice xbA xbn xbc, .slice xeA xen xec] : Array Value).size → w4.cell? ((⟨g + 1, 0, none⟩ : Addr).add j) = (#[.int .u16 (xop : Int), .int .u32 (xa : Int), .int .u32 (xb : Int), .int .u64 (xn : Int), .int .u8 ((xv 0).toNat : Int), .int .u8 ((xv 1).toNat : Int), .int .u8 ((xv 2).toNat : Int), .int .u8 ((xv 3).toNat : Int), .int .u8 ((xv 4).toNat : Int), .int .u8 ((xv 5).toNat : Int), .int .u8 ((xv 6).toNat : Int), .int .u8 ((xv 7).toNat : Int), .int .u8 ((xv 8).toNat : Int), .int .u8 ((xv 9).toNat : Int), .int .u8 ((xv 10).toNat : Int), .int .u8 ((xv 11).toNat : Int), .int .u8 ((xv 12).toNat : Int), .int .u8 ((xv 13).toNat : Int), .int .u8 ((xv 14).toNat : Int), .int .u8 ((xv 15).toNat : Int), .slice xlA xln xlc, .slice xtA xtn xtc, .int .u8 (xbk : Int), .int .u8 (xbv : Int), .int .u32 (xbt : Int), .slice xbA xbn xbc, .slice xeA xen xec] : Array Value)[j]? := fun j _ => by
        rw [addr_add, Nat.zero_add]
        exact HB24.out.cell j
      have HX4 := Lib.hid hx4
      clear hx4
      cases hmy : mayP (.cons X bd el .nil) with
      | false =>
        rw [hmy] at HM
        have HE := Lib.hid (show EffectP p X bd el = (0, 0, 2) by unfold EffectP; rw [HI.out]; exact (if_neg him).trans (if_pos hmy))
        have HH := Lib.hid him
        clear hmy him
        go_wp2_with (first | (refine wpList_load_cells_g (by rfl) 70 _ rfl ⟨g + 1, 0, none⟩ rfl #[.int .u16 (xop : Int), .int .u32 (xa : Int), .int .u32 (xb : Int), .int .u64 (xn : Int), .int .u8 ((xv 0).toNat : Int), .int .u8 ((xv 1).toNat : Int), .int .u8 ((xv 2).toNat : Int), .int .u8 ((xv 3).toNat : Int), .int .u8 ((xv 4).toNat : Int), .int .u8 ((xv 5).toNat : Int), .int .u8 ((xv 6).toNat : Int), .int .u8 ((xv 7).toNat : Int), .int .u8 ((xv 8).toNat : Int), .int .u8 ((xv 9).toNat : Int), .int .u8 ((xv 10).toNat : Int), .int .u8 ((xv 11).toNat : Int), .int .u8 ((xv 12).toNat : Int), .int .u8 ((xv 13).toNat : Int), .int .u8 ((xv 14).toNat : Int), .int .u8 ((xv 15).toNat : Int), .slice xlA xln xlc, .slice xtA xtn xtc, .int .u8 (xbk : Int), .int .u8 (xbv : Int), .int .u32 (xbt : Int), .slice xbA xbn xbc, .slice xeA xen xec] _ HX4.out Tryd.underlying70 rfl (by kernel_rfl) ?_) | (go_at_call 35; refine HM.out.mono ?_; rintro e w6 ⟨rfl, hk6⟩))
        all_goals first | (exfalso; have := HH.out; omega) | skip
        go_ret3
        exact ⟨by rw [HE.out]; rfl, (HK4.out.then0 HZ5.out).then0 hk6⟩
      | true =>
        rw [hmy] at HM
        have HMY := Lib.hid hmy
        have HIM := Lib.hid him
        clear hmy him
        go_upto_region 4 with (first | (refine wpList_load_cells_g (by rfl) 70 _ rfl ⟨g + 1, 0, none⟩ rfl #[.int .u16 (xop : Int), .int .u32 (xa : Int), .int .u32 (xb : Int), .int .u64 (xn : Int), .int .u8 ((xv 0).toNat : Int), .int .u8 ((xv 1).toNat : Int), .int .u8 ((xv 2).toNat : Int), .int .u8 ((xv 3).toNat : Int), .int .u8 ((xv 4).toNat : Int), .int .u8 ((xv 5).toNat : Int), .int .u8 ((xv 6).toNat : Int), .int .u8 ((xv 7).toNat : Int), .int .u8 ((xv 8).toNat : Int), .int .u8 ((xv 9).toNat : Int), .int .u8 ((xv 10).toNat : Int), .int .u8 ((xv 11).toNat : Int), .int .u8 ((xv 12).toNat : Int), .int .u8 ((xv 13).toNat : Int), .int .u8 ((xv 14).toNat : Int), .int .u8 ((xv 15).toNat : Int), .slice xlA xln xlc, .slice xtA xtn xtc, .int .u8 (xbk : Int), .int .u8 (xbv : Int), .int .u32 (xbt : Int), .slice xbA xbn xbc, .slice xeA xen xec] _ HX4.out Tryd.underlying70 rfl (by kernel_rfl) ?_) | (go_at_call 35; refine HM.out.mono ?_; rintro e w6 ⟨rfl, hk6⟩))
        all_goals first | (exfalso; have := HIM.out; omega) | skip
        have hk56 := HZ5.out.then0 hk6
        have HB16 := Lib.hid (hk56.blk HB14.out (fun x => x))
        have HB26 := Lib.hid (hk56.blk HB24.out (fun x => x))
        have HF6 := Lib.hid (hk56.blk HF4.out (fun x => x))
        have HK6 := Lib.hid (HK4.out.then0 hk56)
        clear hk56 hk6 y0 y2 HX4 HM HZ5 HF4 HB14 HB24 HK4
        have y0 : w6.cell? ⟨g + 1, 0, none⟩ = some (.int .u16 (xop : Int)) := HB26.out.cell 0
        have y2 : w6.cell? ⟨wi, 2, none⟩ = some (.int .u8 (imm : Int)) := HF6.out.cell 2
        by_cases hgo : isGoing X.op = true
        · have HE := Lib.hid (show EffectP p X bd el = (0, 0, 2) by unfold EffectP; rw [HI.out]; exact (if_neg HIM.out).trans ((if_neg (by rw [HMY.out]; simp)).trans (if_pos hgo)))
          have hgo' : xop = 0 ∨ xop = 12 ∨ xop = 13 ∨ xop = 14 ∨ xop = 15 := by
            have := HOP.out
            unfold isGoing at hgo
            simp only [Bool.or_eq_true, beq_iff_eq] at hgo
            omega
          have HGO := Lib.hid hgo'
          clear hgo hgo'
          have hgo' := HGO.out
          clear HOP HAB HX
          rcases hgo' with rfl | rfl | rfl | rfl | rfl
          all_goals
            go_wp2_with fail
            go_ret3
            exact ⟨by rw [HE.out]; rfl, HK6.out⟩
        · have HGO := Lib.hid hgo
          have hn : ¬ xop = 0 ∧ ¬ xop = 12 ∧ ¬ xop = 13 ∧ ¬ xop = 14 ∧ ¬ xop = 15 := by
            have := HOP.out
            unfold isGoing at hgo
            simp only [Bool.or_eq_true, beq_iff_eq] at hgo
            omega
          obtain ⟨n0, n12, n13, n14, n15⟩ := hn
          have m0 : ¬ (xop : Int) = 0 := by omega
          have m12 : ¬ (xop : Int) = 12 := by omega
          have m13 : ¬ (xop : Int) = 13 := by omega
          have m14 : ¬ (xop : Int) = 14 := by omega
          have m15 : ¬ (xop : Int) = 15 := by omega
          clear hgo
          have HTH := Lib.hid (there_any ⟨ctyA, ctyn, ctyc, cfuA, cfun_, cfuc, ctaA, ctan, ctac, cmeA, cmen, cmec, cglA, cgln, cglc, celA, celn, celc, cdatas, creA, cren, crec_, cloA, clon, cloc, crsA, crsn, crsc, cfixed⟩ p ⟨xop, xa, xb, xn, xv, xlA, xln, xlc, xtA, xtn, xtc, xbk, xbv, xbt, xbA, xbn, xbc, xeA, xen, xec⟩ imm w6 (HC.out.kept0 HK6.out) HX.out.le HI26.out)
          have hxa : xa = X.a := HAB.out.1
          have hxb : xb = X.b := HAB.out.2
          cases hth : thereP p xa xb imm with
          | false =>
            rw [hth] at HTH
            have HE := Lib.hid (show EffectP p X bd el = (0, 0, 5) by unfold EffectP; rw [HI.out]; exact (if_neg HIM.out).trans ((if_neg (by rw [HMY.out]; simp)).trans ((if_neg HGO.out).trans (if_pos (by rw [← hxa, ← hxb]; exact hth)))))
            clear hth hxa hxb
            go_wp2_with (first | (refine wpList_load_row rfl 30 _ rfl g rfl 30 #[.slice ctyA ctyn ctyc, .slice cfuA cfun_ cfuc, .slice ctaA ctan ctac, .slice cmeA cmen cmec, .slice cglA cgln cglc, .slice celA celn celc, .int .i64 cdatas, .slice creA cren crec_, .slice cloA clon cloc, .slice crsA crsn crsc, .int .i64 cfixed] (0, 0) _ HB16.out Tryd.underlying30 rfl (by kernel_rfl) ?_) | (refine wpList_load_row rfl 70 _ rfl (g + 1) rfl 70 #[.int .u16 (xop : Int), .int .u32 (xa : Int), .int .u32 (xb : Int), .int .u64 (xn : Int), .int .u8 ((xv 0).toNat : Int), .int .u8 ((xv 1).toNat : Int), .int .u8 ((xv 2).toNat : Int), .int .u8 ((xv 3).toNat : Int), .int .u8 ((xv 4).toNat : Int), .int .u8 ((xv 5).toNat : Int), .int .u8 ((xv 6).toNat : Int), .int .u8 ((xv 7).toNat : Int), .int .u8 ((xv 8).toNat : Int), .int .u8 ((xv 9).toNat : Int), .int .u8 ((xv 10).toNat : Int), .int .u8 ((xv 11).toNat : Int), .int .u8 ((xv 12).toNat : Int), .int .u8 ((xv 13).toNat : Int), .int .u8 ((xv 14).toNat : Int), .int .u8 ((xv 15).toNat : Int), .slice xlA xln xlc, .slice xtA xtn xtc, .int .u8 (xbk : Int), .int .u8 (xbv : Int), .int .u32 (xbt : Int), .slice xbA xbn xbc, .slice xeA xen xec] (0, 0) _ HB26.out Tryd.underlying70 rfl (by kernel_rfl) ?_) | (go_at_call 71; refine HTH.out.mono ?_; rintro e w7 ⟨rfl, hk7⟩))
            go_ret3
            exact ⟨by rw [HE.out]; rfl, HK6.out.then0 hk7⟩
          | true =>
            rw [hth] at HTH
            have HE := Lib.hid (show EffectP p X bd el = ((effectP p xop xa nf nt).1, (effectP p xop xa nf nt).2, 0) by
              unfold EffectP
              rw [HI.out]
              refine (if_neg HIM.out).trans ((if_neg (by rw [HMY.out]; simp)).trans ((if_neg HGO.out).trans ((if_neg (by rw [← hxa, ← hxb]; show ¬ thereP p xa xb imm = false; rw [hth]; simp)).trans ?_)))
              show ((effectP p X.op X.a from_.length to_.length).1, (effectP p X.op X.a from_.length to_.length).2, 0) = _
              rw [HNF.out.1, HNF.out.2, ← hxa, ← HOP.out])
            have h16 : xop = 16 → xa < p.funcs.length := fun e => by
              subst e
              have h1 : inf 16 = some (imm, bits, shp, from_, to_) := HOP.out ▸ HI.out
              have h2 : inf 16 = some (4, 0, 2, [], []) := by kernel_rfl
              rw [h2] at h1
              injection h1 with h1
              injection h1 with h1 _
              subst h1
              have h3 : isP xa (p.funcs.length : Int) = true := hth
              exact isP_lt h3 HC.out.le.2.1
            have h17 : xop = 17 → xa < p.types.length := fun e => by
              subst e
              have h1 : inf 17 = some (imm, bits, shp, from_, to_) := HOP.out ▸ HI.out
              have h2 : inf 17 = some (5, 0, 2, [], []) := by kernel_rfl
              rw [h2] at h1
              injection h1 with h1
              injection h1 with h1 _
              subst h1
              have h3 : (isP xa (p.types.length : Int) && isP xb (p.tables.length : Int)) = true := hth
              simp only [Bool.and_eq_true] at h3
              exact isP_lt h3.1 HC.out.le.1
            have HEF := Lib.hid (fun (w7 : World) (hk7 : Kept S0 w w7) => effect_any ⟨ctyA, ctyn, ctyc, cfuA, cfun_, cfuc, ctaA, ctan, ctac, cmeA, cmen, cmec, cglA, cgln, cglc, celA, celn, celc, cdatas, creA, cren, crec_, cloA, clon, cloc, crsA, crsn, crsc, cfixed⟩ p ⟨xop, xa, xb, xn, xv, xlA, xln, xlc, xtA, xtn, xtc, xbk, xbv, xbt, xbA, xbn, xbc, xeA, xen, xec⟩ xop name imm Af nf cf At nt ct bits plain w7 (HC.out.kept0 hk7) h16 h17)
            clear hth hxa hxb h16 h17
            go_upto_region 13 with (first | (refine wpList_load_row rfl 30 _ rfl g rfl 30 #[.slice ctyA ctyn ctyc, .slice cfuA cfun_ cfuc, .slice ctaA ctan ctac, .slice cmeA cmen cmec, .slice cglA cgln cglc, .slice celA celn celc, .int .i64 cdatas, .slice creA cren crec_, .slice cloA clon cloc, .slice crsA crsn crsc, .int .i64 cfixed] (0, 0) _ HB16.out Tryd.underlying30 rfl (by kernel_rfl) ?_) | (refine wpList_load_row rfl 70 _ rfl (g + 1) rfl 70 #[.int .u16 (xop : Int), .int .u32 (xa : Int), .int .u32 (xb : Int), .int .u64 (xn : Int), .int .u8 ((xv 0).toNat : Int), .int .u8 ((xv 1).toNat : Int), .int .u8 ((xv 2).toNat : Int), .int .u8 ((xv 3).toNat : Int), .int .u8 ((xv 4).toNat : Int), .int .u8 ((xv 5).toNat : Int), .int .u8 ((xv 6).toNat : Int), .int .u8 ((xv 7).toNat : Int), .int .u8 ((xv 8).toNat : Int), .int .u8 ((xv 9).toNat : Int), .int .u8 ((xv 10).toNat : Int), .int .u8 ((xv 11).toNat : Int), .int .u8 ((xv 12).toNat : Int), .int .u8 ((xv 13).toNat : Int), .int .u8 ((xv 14).toNat : Int), .int .u8 ((xv 15).toNat : Int), .slice xlA xln xlc, .slice xtA xtn xtc, .int .u8 (xbk : Int), .int .u8 (xbv : Int), .int .u32 (xbt : Int), .slice xbA xbn xbc, .slice xeA xen xec] (0, 0) _ HB26.out Tryd.underlying70 rfl (by kernel_rfl) ?_) | (go_at_call 71; refine HTH.out.mono ?_; rintro e w7 ⟨rfl, hk7⟩))
            have HB17 := Lib.hid (hk7.blk HB16.out (fun x => x))
            have HB27 := Lib.hid (hk7.blk HB26.out (fun x => x))
            have HF7 := Lib.hid (hk7.blk HF6.out (fun x => x))
            have HK7 := Lib.hid (HK6.out.then0 hk7)
            clear hk7 y0 y2
            go_wp2_with (first | (refine wpList_load_row rfl 30 _ rfl g rfl 30 #[.slice ctyA ctyn ctyc, .slice cfuA cfun_ cfuc, .slice ctaA ctan ctac, .slice cmeA cmen cmec, .slice cglA cgln cglc, .slice celA celn celc, .int .i64 cdatas, .slice creA cren crec_, .slice cloA clon cloc, .slice crsA crsn crsc, .int .i64 cfixed] (0, 0) _ HB17.out Tryd.underlying30 rfl (by kernel_rfl) ?_) | (refine wpList_load_row rfl 70 _ rfl (g + 1) rfl 70 #[.int .u16 (xop : Int), .int .u32 (xa : Int), .int .u32 (xb : Int), .int .u64 (xn : Int), .int .u8 ((xv 0).toNat : Int), .int .u8 ((xv 1).toNat : Int), .int .u8 ((xv 2).toNat : Int), .int .u8 ((xv 3).toNat : Int), .int .u8 ((xv 4).toNat : Int), .int .u8 ((xv 5).toNat : Int), .int .u8 ((xv 6).toNat : Int), .int .u8 ((xv 7).toNat : Int), .int .u8 ((xv 8).toNat : Int), .int .u8 ((xv 9).toNat : Int), .int .u8 ((xv 10).toNat : Int), .int .u8 ((xv 11).toNat : Int), .int .u8 ((xv 12).toNat : Int), .int .u8 ((xv 13).toNat : Int), .int .u8 ((xv 14).toNat : Int), .int .u8 ((xv 15).toNat : Int), .slice xlA xln xlc, .slice xtA xtn xtc, .int .u8 (xbk : Int), .int .u8 (xbv : Int), .int .u32 (xbt : Int), .slice xbA xbn xbc, .slice xeA xen xec] (0, 0) _ HB27.out Tryd.underlying70 rfl (by kernel_rfl) ?_) | (refine wpList_load_row rfl 129 _ rfl wi rfl 129 #[.int .u16 (xop : Int), .string name, .int .u8 (imm : Int), .slice Af nf cf, .slice At nt ct, .int .i64 (bits : Int), .bool plain] (0, 0) _ HF7.out Tryd.underlying129 rfl (by kernel_rfl) ?_) | (go_at_call 72; refine (HEF.out w7 HK7.out).mono ?_; rintro e w8 ⟨rfl, hk8⟩))
            go_ret3
            exact ⟨by rw [HE.out]; rfl, HK7.out.then0 hk8⟩
end Go.Proofs.YtfmblalbcodpmaaDoor
