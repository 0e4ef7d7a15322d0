/- An act done to a checker and to the document's, whichever it is; a list of acts that came. No condition. -/
import Derived.Test.YtpbaojjcbpfdaaaStkBr
namespace Go.Proofs.Ytpbaojjcbpfdaaa
open Go.RowKit

section
variable {X Z : Nat → Prop} {w w' : World} {sb base : Nat} {s m : St} {mv : Value}

theorem both_is {A B : Option Addr} {d o : Int} {n mi c k e : Nat} {v u : Nat → UInt8} {t : UInt8} (hn : n ≤ 4294967295) (hr : Ready X Z w sb base s m mv A mi c v B k e u) :
    Calls Try.prog 20 #[.pointer (some ⟨sb, 0, none⟩), mv, .agg #[.int .i64 d, .int .u16 o, .int .u32 (n : Int), .int .u8 (t.toNat : Int), .slice A mi c, .slice B k e]] w fun e' w' => Done X Z w sb base s m (s.act d o t mi v k u) (m.act d o t mi v k u) e' w' := by
  unfold St.act
  by_cases h0 : d = 0
  · subst h0; exact both_0 hr
  by_cases h1 : d = 1
  · subst h1; exact both_1 hr
  by_cases h2 : d = 2
  · subst h2; exact both_2 hr
  by_cases h3 : d = 3
  · subst h3; exact both_3 hr
  by_cases h4 : d = 4
  · subst h4; exact both_4 hr
  by_cases h5 : d = 5
  · subst h5; exact both_5 hr
  by_cases h6 : d = 6
  · subst h6; exact both_6 hr
  rw [if_neg h0, if_neg h1, if_neg h2, if_neg h3, if_neg h4, if_neg h5, if_neg h6, if_neg h0, if_neg h1, if_neg h2, if_neg h3, if_neg h4, if_neg h5, if_neg h6]
  exact both_7 ⟨beq_eq_false_iff_ne.2 h0, beq_eq_false_iff_ne.2 h1, beq_eq_false_iff_ne.2 h2, beq_eq_false_iff_ne.2 h3, beq_eq_false_iff_ne.2 h4, beq_eq_false_iff_ne.2 h5, beq_eq_false_iff_ne.2 h6⟩ hn hr
end

theorem St.close_n (s : St) (hw : s.Wf) : s.close.n ≤ s.n ∧ s.close.k ≤ s.k := by
  unfold St.close
  split
  · rename_i h
    refine ⟨?_, Nat.sub_le _ _⟩
    by_cases h0 : s.k = 0
    · unfold St.closeE St.pop at h
      rw [if_pos h0, if_neg (by intro e; cases e)] at h
      cases h
    · exact hw.le (s.k - 1) (by omega)
  · exact ⟨Nat.le_refl _, Nat.le_refl _⟩

theorem St.dead_n (s : St) (hw : s.Wf) : s.dead.n ≤ s.n ∧ s.dead.k = s.k := by
  unfold St.dead
  split
  · exact ⟨Nat.le_refl _, rfl⟩
  · exact ⟨hw.le (s.k - 1) (by omega), rfl⟩

theorem St.ofN_le (s : St) (hw : s.Wf) (t : UInt8) : (∀ q, q < s.k → (s.D q).h ≤ s.ofN t) ∧ s.ofN t ≤ s.n := by
  unfold St.ofN
  split
  · exact s.takeN_le hw
  · exact ⟨hw.le, Nat.le_refl _⟩

theorem St.act_wf {s : St} (hw : s.Wf) (d o : Int) (t : UInt8) (mi : Nat) (v : Nat → UInt8) (k : Nat) (u : Nat → UInt8) (hn : s.n + mi ≤ 140737488351232) (hk : s.k + 1 ≤ 1000000000) : (s.act d o t mi v k u).Wf ∧ (s.act d o t mi v k u).n ≤ s.n + mi ∧ (s.act d o t mi v k u).k ≤ s.k + 1 := by
  unfold St.act
  split
  · exact ⟨hw.push v mi hn, Nat.le_refl _, Nat.le_succ _⟩
  split
  · exact ⟨hw.take, Nat.le_trans (s.takeN_le hw).2 (Nat.le_add_right _ _), Nat.le_succ _⟩
  split
  · exact ⟨hw.takeOf t, Nat.le_trans (s.ofN_le hw t).2 (Nat.le_add_right _ _), Nat.le_succ _⟩
  split
  · exact ⟨hw.takeAll v mi, Nat.le_trans (s.allN_le hw v mi).2 (Nat.le_add_right _ _), Nat.le_succ _⟩
  split
  · exact ⟨hw.open o mi v k u hn hk, Nat.le_refl _, Nat.le_refl _⟩
  split
  · exact ⟨hw.close, Nat.le_trans (s.close_n hw).1 (Nat.le_add_right _ _), Nat.le_trans (s.close_n hw).2 (Nat.le_succ _)⟩
  split
  · exact ⟨hw.dead, Nat.le_trans (s.dead_n hw).1 (Nat.le_add_right _ _), by rw [(s.dead_n hw).2]; exact Nat.le_succ _⟩
  · exact ⟨hw, Nat.le_add_right _ _, Nat.le_succ _⟩

/-- An act as it came. -/
structure ActV where
  d : Int
  o : Int
  n : Nat
  t : UInt8
  A : Option Addr
  mi : Nat
  c : Nat
  v : Nat → UInt8
  B : Option Addr
  k : Nat
  e : Nat
  u : Nat → UInt8

def ActV.cell (a : ActV) (j : Nat) : Value := if j = 0 then .int .i64 a.d else if j = 1 then .int .u16 a.o else if j = 2 then .int .u32 (a.n : Int) else if j = 3 then .int .u8 (a.t.toNat : Int) else if j = 4 then .slice a.A a.mi a.c else .slice a.B a.k a.e

/-- An act's cells lie there, its lists read. -/
structure ActOk (w : World) (b o : Nat) (a : ActV) : Prop where
  cells : ∀ j, j < 6 → w.cell? ⟨b, o + j, none⟩ = some (a.cell j)
  inn : Came (SB w.heap.size) w a.A a.mi a.c a.v
  out : Came (SB w.heap.size) w a.B a.k a.e a.u
  ni : a.n ≤ 4294967295
  small : a.mi ≤ 1048576

def St.doAct (s : St) (a : ActV) : St := s.act a.d a.o a.t a.mi a.v a.k a.u

/-- A list of acts that came. -/
structure ActsAt (w : World) (L : Option Addr) (l : Nat) (a : Nat → ActV) : Prop where
  acts : 0 < l → ∃ b o, L = some ⟨b, o, none⟩ ∧ ∀ i, i < l → ActOk w b (o + i * 6) (a i)
  len : l ≤ 9223372036854775807

theorem stk_new {w w' : World} {sb : Nat} (h : StkAt w' sb w.heap.size 0 (fun _ => 0) (.slice none 0 0) 0 (fun _ => undef) (.slice none 0 0)) : StkIs w' sb w.heap.size (S1 sb) S0 ⟨0, fun _ => 0, 0, fun _ => frm0⟩ :=
  ⟨⟨_, _, _, h, fun i => ⟨fun e => (by
    rcases e with e | e | e
    · exact e
    · simp [Value.ownBlock] at e
    · simp [Value.ownBlock] at e), fun e => .inl e⟩, fun q hq => absurd hq (Nat.not_lt_zero q)⟩, fun i e => (by
    have e' : i = sb := e
    rw [e']
    exact h.lo), fun _ x => x.elim⟩

theorem mod_new {X : Nat → Prop} {w : World} : ModIs X w (.agg #[.slice none 0 0, .slice none 0 0]) ⟨0, fun _ => 0, 0, fun _ => frm0⟩ :=
  ⟨none, 0, none, 0, fun _ => undef, rfl, Nat.le_refl _, Nat.le_refl _, came_nil _, fun h => absurd h (by simp), fun _ => rfl, fun _ hq => absurd hq (Nat.not_lt_zero _)⟩

theorem wf_new : St.Wf ⟨0, fun _ => 0, 0, fun _ => frm0⟩ := ⟨fun _ hq => absurd hq (Nat.not_lt_zero _), fun _ _ _ hr => absurd hr (Nat.not_lt_zero _), Nat.zero_le _, Nat.zero_le _⟩
end Go.Proofs.Ytpbaojjcbpfdaaa
