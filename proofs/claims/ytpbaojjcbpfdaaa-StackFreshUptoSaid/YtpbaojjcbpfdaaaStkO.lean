/- The contracts of a checker's calls in terms of the plain model. No condition. -/
import Derived.Test.YtpbaojjcbpfdaaaStkM
import Derived.Test.YtpbaojjcbpfdaaaLStkD
namespace Go.Proofs.Ytpbaojjcbpfdaaa
open Go.RowKit

/-- Behind a call: the checker is this one. -/
def Nx (sb base : Nat) (X Z : Nat → Prop) (w : World) (s' : St) (w' : World) : Prop := ∃ X', StkIs w' sb base X' Z s' ∧ Stp X X' w w'

section
variable {w w' : World} {sb base : Nat} {X Z : Nat → Prop} {s : St}

theorem StkIs.sb_in (h : StkIs w sb base X Z s) : X sb := by
  obtain ⟨lv, lf, F, _, hX, _⟩ := h.ex
  exact (hX sb).1 (.inl rfl)
theorem StkIs.sb_lt (h : StkIs w sb base X Z s) : sb < w.heap.size := by
  obtain ⟨lv, lf, F, hm, _, _⟩ := h.ex
  exact hm.obj.lt
theorem StkIs.kept0 (h : StkIs w sb base X Z s) (hk : Kept S0 w w') : StkIs w' sb base X Z s := by
  obtain ⟨lv, lf, F, hm, hX, hF⟩ := h.ex
  exact ⟨⟨lv, lf, F, hm.kept0 hk, hX, hF.step (.of0 hk)⟩, h.low, fun i hi => Nat.lt_of_lt_of_le (h.zlt i hi) hk.size⟩
/-- Writes to other blocks than the checker's own leave it, its frames' lists told anew. -/
theorem Nx.same (h : StkIs w sb base X Z s) (hk : Kept S0 w w') : Nx sb base X Z w s w' := ⟨X, h.kept0 hk, .of0 hk⟩
theorem Nx.trans {s1 s2 : St} {w1 : World} (h : Nx sb base X Z w s1 w1) (k : ∀ X1, StkIs w1 sb base X1 Z s1 → Nx sb base X1 Z w1 s2 w') : Nx sb base X Z w s2 w' := by
  obtain ⟨X1, h1, h2⟩ := h
  obtain ⟨X2, k1, k2⟩ := k X1 h1
  exact ⟨X2, k1, h2.trans k2⟩

theorem take_is (h : StkIs w sb base X Z s) (hw : s.Wf) : Calls Try.prog 13 #[.pointer (some ⟨sb, 0, none⟩)] w fun e w' =>
    e = .returned (.tuple #[.int .u8 (s.takeT.toNat : Int), .int .i64 s.takeE]) ∧ Nx sb base X Z w (s.withN s.takeN) w' := by
  obtain ⟨lv, lf, F, hm, hX, hF⟩ := h.ex
  have hs := h
  rcases s with ⟨n, v, k, D⟩
  have hm : StkAt w sb base n v lv k F lf := hm
  rcases Nat.eq_zero_or_pos k with rfl | hk0
  · refine (take_empty hm).mono fun e w' ⟨he, hk⟩ => ⟨he, .same hs hk⟩
  · obtain ⟨q, rfl⟩ : ∃ q, k = q + 1 := ⟨k - 1, by omega⟩
    obtain ⟨g, c, rfl⟩ := hm.lf_some
    obtain ⟨A, c1, B, c2, hf, _, _⟩ := hF q (by exact Nat.lt_succ_self q)
    have hq : q + 1 ≤ 1000000000 := hw.k
    have hn : n ≤ 140737488351232 := hw.n
    have hle : (D q).h ≤ n := hw.le q (Nat.lt_succ_self q)
    have hk1 : ¬ (q + 1 = 0) := by omega
    by_cases hh : n = (D q).h
    · have hf3 : F (q * 5 + 3) = .int .i64 (n : Int) := by rw [hf.f3, hh]
      have eN : St.takeN ⟨n, v, q + 1, D⟩ = n := by
        show (if q + 1 = 0 then n else if n = (D q).h then n else n - 1) = n
        rw [if_neg hk1, if_pos hh]
      have eT : St.takeT ⟨n, v, q + 1, D⟩ = 0 := by
        show (if q + 1 = 0 then 0 else if n = (D q).h then 0 else v (n - 1)) = (0 : UInt8)
        rw [if_neg hk1, if_pos hh]
      cases hd : (D q).dead with
      | true =>
        have eE : St.takeE ⟨n, v, q + 1, D⟩ = 0 := by
          show (if q + 1 = 0 then (5 : Int) else if n = (D q).h then (if (D q).dead = true then 0 else 5) else 0) = 0
          rw [if_neg hk1, if_pos hh, if_pos hd]
        refine (take_dead g q c hm (by omega) hf3 (by rw [hf.f4, hd])).mono fun e w' ⟨he, hk⟩ => ⟨?_, ?_⟩
        · rw [he, eT, eE]; rfl
        · rw [eN]; exact .same hs hk
      | false =>
        have eE : St.takeE ⟨n, v, q + 1, D⟩ = 5 := by
          show (if q + 1 = 0 then (5 : Int) else if n = (D q).h then (if (D q).dead = true then 0 else 5) else 0) = 5
          rw [if_neg hk1, if_pos hh, if_neg (by rw [hd]; decide)]
        refine (take_floor g q c hm (by omega) hf3 (by rw [hf.f4, hd])).mono fun e w' ⟨he, hk⟩ => ⟨?_, ?_⟩
        · rw [he, eT, eE]; rfl
        · rw [eN]; exact .same hs hk
    · obtain ⟨j, rfl⟩ : ∃ j, n = j + 1 := ⟨n - 1, by omega⟩
      have eN : St.takeN ⟨j + 1, v, q + 1, D⟩ = j := by
        show (if q + 1 = 0 then j + 1 else if j + 1 = (D q).h then j + 1 else j + 1 - 1) = j
        rw [if_neg hk1, if_neg hh]; rfl
      have eT : St.takeT ⟨j + 1, v, q + 1, D⟩ = v j := by
        show (if q + 1 = 0 then 0 else if j + 1 = (D q).h then 0 else v (j + 1 - 1)) = v j
        rw [if_neg hk1, if_neg hh]; rfl
      have eE : St.takeE ⟨j + 1, v, q + 1, D⟩ = 0 := by
        show (if q + 1 = 0 then (5 : Int) else if j + 1 = (D q).h then (if (D q).dead = true then 0 else 5) else 0) = 0
        rw [if_neg hk1, if_neg hh]
      refine (take_value g q c j (D q).h hm (by omega) (by omega) hf.f3 (by omega)).mono fun e w' ⟨he, lj, hm2, hk2, hl, _⟩ => ⟨?_, ?_⟩
      · rw [he, eT, eE]
      · rw [eN]
        have hst : Stp X X w w' := .of hk2 (fun i hi => by have e : i = sb := hi; rw [e]; exact hs.sb_in)
        exact ⟨X, ⟨⟨lj, _, F, hm2, fun i => by unfold SK; rw [hl]; exact hX i, hF.step hst.z⟩, hs.low, fun i hi => Nat.lt_of_lt_of_le (hs.zlt i hi) hst.kept.size⟩, hst⟩

theorem St.of_ref (s : St) (t : UInt8) (h : s.takeE = 5) : s.ofE t = 5 ∧ s.ofT t = 0 ∧ s.ofN t = s.n := by
  have e : s.ofE t = 5 := by unfold St.ofE; rw [h, if_neg (by decide)]
  refine ⟨e, ?_, ?_⟩
  · unfold St.ofT; rw [e, if_neg (by decide)]
  · unfold St.ofN; rw [e, if_neg (by decide)]
theorem St.of_ok (s : St) (t : UInt8) (h : s.takeE = 0) (hf : s.fits t) : s.ofE t = 0 ∧ s.ofT t = s.takeT ∧ s.ofN t = s.takeN := by
  have e : s.ofE t = 0 := by unfold St.ofE; rw [h, if_pos rfl, if_pos hf]
  refine ⟨e, ?_, ?_⟩
  · unfold St.ofT; rw [e, if_pos rfl]
  · unfold St.ofN; rw [e, if_pos rfl]
theorem St.of_bad (s : St) (t : UInt8) (h : s.takeE = 0) (hf : ¬ s.fits t) : s.ofE t = 5 ∧ s.ofT t = 0 ∧ s.ofN t = s.n := by
  have e : s.ofE t = 5 := by unfold St.ofE; rw [h, if_pos rfl, if_neg hf]
  refine ⟨e, ?_, ?_⟩
  · unfold St.ofT; rw [e, if_neg (by decide)]
  · unfold St.ofN; rw [e, if_neg (by decide)]

theorem take_eqs0 (n : Nat) (v : Nat → UInt8) (D : Nat → Frm) : St.takeE ⟨n, v, 0, D⟩ = 5 ∧ St.takeT ⟨n, v, 0, D⟩ = 0 ∧ St.takeN ⟨n, v, 0, D⟩ = n := ⟨rfl, rfl, rfl⟩
theorem take_eqs1 (n q : Nat) (v : Nat → UInt8) (D : Nat → Frm) (hh : n = (D q).h) : St.takeE ⟨n, v, q + 1, D⟩ = (if (D q).dead = true then 0 else 5) ∧ St.takeT ⟨n, v, q + 1, D⟩ = 0 ∧ St.takeN ⟨n, v, q + 1, D⟩ = n := by
  have hk1 : ¬ (q + 1 = 0) := by omega
  refine ⟨?_, ?_, ?_⟩
  · show (if q + 1 = 0 then (5 : Int) else if n = (D q).h then (if (D q).dead = true then 0 else 5) else 0) = _
    rw [if_neg hk1, if_pos hh]
  · show (if q + 1 = 0 then 0 else if n = (D q).h then 0 else v (n - 1)) = (0 : UInt8)
    rw [if_neg hk1, if_pos hh]
  · show (if q + 1 = 0 then n else if n = (D q).h then n else n - 1) = n
    rw [if_neg hk1, if_pos hh]
theorem take_eqs2 (j q : Nat) (v : Nat → UInt8) (D : Nat → Frm) (hh : ¬ (j + 1 = (D q).h)) : St.takeE ⟨j + 1, v, q + 1, D⟩ = 0 ∧ St.takeT ⟨j + 1, v, q + 1, D⟩ = v j ∧ St.takeN ⟨j + 1, v, q + 1, D⟩ = j := by
  have hk1 : ¬ (q + 1 = 0) := by omega
  refine ⟨?_, ?_, ?_⟩
  · show (if q + 1 = 0 then (5 : Int) else if j + 1 = (D q).h then (if (D q).dead = true then 0 else 5) else 0) = 0
    rw [if_neg hk1, if_neg hh]
  · show (if q + 1 = 0 then 0 else if j + 1 = (D q).h then 0 else v (j + 1 - 1)) = v j
    rw [if_neg hk1, if_neg hh]; rfl
  · show (if q + 1 = 0 then j + 1 else if j + 1 = (D q).h then j + 1 else j + 1 - 1) = j
    rw [if_neg hk1, if_neg hh]; rfl

theorem Nx.taken {n j q : Nat} {v : Nat → UInt8} {D : Nat → Frm} {lv lj lf : Value} {F : Nat → Value} (h : StkIs w sb base X Z ⟨n, v, q + 1, D⟩) (hX : ∀ i, SK sb lv lf i ↔ X i) (hF : FrsOk (XZ X Z) w F (q + 1) D) (hm2 : StkAt w' sb base j v lj (q + 1) F lf) (hk2 : Kept (S1 sb) w w') (hl : lj.ownBlock = lv.ownBlock) : Nx sb base X Z w ⟨j, v, q + 1, D⟩ w' := by
  have hst : Stp X X w w' := .of hk2 (fun i hi => by have e : i = sb := hi; rw [e]; exact h.sb_in)
  exact ⟨X, ⟨⟨lj, _, F, hm2, fun i => by unfold SK; rw [hl]; exact hX i, hF.step hst.z⟩, h.low, fun i hi => Nat.lt_of_lt_of_le (h.zlt i hi) hst.kept.size⟩, hst⟩

theorem takeOf_is (t : UInt8) (h : StkIs w sb base X Z s) (hw : s.Wf) : Calls Try.prog 23 #[.pointer (some ⟨sb, 0, none⟩), .int .u8 (t.toNat : Int)] w fun e w' =>
    e = .returned (.tuple #[.int .u8 ((s.ofT t).toNat : Int), .int .i64 (s.ofE t)]) ∧ Nx sb base X Z w (s.withN (s.ofN t)) w' := by
  obtain ⟨lv, lf, F, hm, hX, hF⟩ := h.ex
  have hs := h
  rcases s with ⟨n, v, k, D⟩
  have hm : StkAt w sb base n v lv k F lf := hm
  rcases Nat.eq_zero_or_pos k with rfl | hk0
  · obtain ⟨e1, e2, e3⟩ := St.of_ref ⟨n, v, 0, D⟩ t rfl
    refine (takeOf_ref t hm (take_empty hm)).mono fun e w' ⟨he, hk⟩ => ⟨by rw [he, e1, e2]; rfl, by rw [e3]; exact .same hs hk⟩
  · obtain ⟨q, rfl⟩ : ∃ q, k = q + 1 := ⟨k - 1, by omega⟩
    obtain ⟨g, c, rfl⟩ := hm.lf_some
    obtain ⟨A, c1, B, c2, hf, _, _⟩ := hF q (by exact Nat.lt_succ_self q)
    have hq : q + 1 ≤ 1000000000 := hw.k
    have hn : n ≤ 140737488351232 := hw.n
    have hle : (D q).h ≤ n := hw.le q (Nat.lt_succ_self q)
    by_cases hh : n = (D q).h
    · have hf3 : F (q * 5 + 3) = .int .i64 (n : Int) := by rw [hf.f3, hh]
      obtain ⟨f1, f2, f3⟩ := take_eqs1 n q v D hh
      cases hd : (D q).dead with
      | true =>
        rw [if_pos hd] at f1
        obtain ⟨e1, e2, e3⟩ := St.of_ok ⟨n, v, q + 1, D⟩ t f1 (.inr (.inl f2))
        refine (takeOf_dead g q c t hm (by omega) hf3 (by rw [hf.f4, hd])).mono fun e w' ⟨he, hk⟩ => ⟨by rw [he, e1, e2, f2]; rfl, by rw [e3, f3]; exact .same hs hk⟩
      | false =>
        rw [if_neg (by rw [hd]; decide)] at f1
        obtain ⟨e1, e2, e3⟩ := St.of_ref ⟨n, v, q + 1, D⟩ t f1
        refine (takeOf_ref t hm (take_floor g q c hm (by omega) hf3 (by rw [hf.f4, hd]))).mono fun e w' ⟨he, hk⟩ => ⟨by rw [he, e1, e2]; rfl, by rw [e3]; exact .same hs hk⟩
    · obtain ⟨j, rfl⟩ : ∃ j, n = j + 1 := ⟨n - 1, by omega⟩
      obtain ⟨f1, f2, f3⟩ := take_eqs2 j q v D hh
      by_cases hc : v j = t ∨ v j = 0 ∨ t = 0
      · obtain ⟨e1, e2, e3⟩ := St.of_ok ⟨j + 1, v, q + 1, D⟩ t f1 (by unfold St.fits; rw [f2]; exact hc)
        refine (takeOf_value g q c j (D q).h t hm (by omega) (by omega) hf.f3 (by omega) hc).mono fun e w' ⟨he, lj, hm2, hk2, hl, _⟩ => ⟨by rw [he, e1, e2, f2], ?_⟩
        rw [e3, f3]
        exact .taken hs hX hF hm2 hk2 hl
      · obtain ⟨e1, e2, e3⟩ := St.of_bad ⟨j + 1, v, q + 1, D⟩ t f1 (by unfold St.fits; rw [f2]; exact hc)
        refine (takeOf_bad g q c j (D q).h t hm (by omega) (by omega) hf.f3 (by omega) hc).mono fun e w' ⟨he, hm2, hk2⟩ => ⟨by rw [he, e1, e2]; rfl, ?_⟩
        rw [e3]
        exact .taken hs hX hF hm2 hk2 rfl

theorem takeAll_is (A : Option Addr) (m cu : Nat) (u : Nat → UInt8) (h : StkIs w sb base X Z s) (hw : s.Wf) (hA : Came X w A m cu u) : Calls Try.prog 18 #[.pointer (some ⟨sb, 0, none⟩), .slice A m cu] w fun e w' =>
    e = .returned (.int .i64 (s.allE u m)) ∧ Nx sb base X Z w (s.withN (s.allN u m)) w' := by
  obtain ⟨lv, lf, F, hm, hX, hF⟩ := h.ex
  have hs := h
  have hA' : Came (S1 sb) w A m cu u := hA.mono (fun i hi => by have e : i = sb := hi; rw [e]; exact hs.sb_in)
  rcases s with ⟨n, v, k, D⟩
  have hm : StkAt w sb base n v lv k F lf := hm
  rcases Nat.eq_zero_or_pos k with rfl | hk0
  · refine (takeAll_empty hm _).mono fun e w' ⟨he, hk⟩ => ⟨he, .same hs hk⟩
  · obtain ⟨q, rfl⟩ : ∃ q, k = q + 1 := ⟨k - 1, by omega⟩
    obtain ⟨g, c, rfl⟩ := hm.lf_some
    obtain ⟨A2, c1, B2, c2, hf, _, _⟩ := hF q (by exact Nat.lt_succ_self q)
    have hq : q + 1 ≤ 1000000000 := hw.k
    have hn : n ≤ 140737488351232 := hw.n
    have hle : (D q).h ≤ n := hw.le q (Nat.lt_succ_self q)
    have hpop : St.pop ⟨n, v, q + 1, D⟩ u m = pops v (D q).h (D q).dead u m n := by
      show (if q + 1 = 0 then none else pops v (D q).h (D q).dead u m n) = _
      rw [if_neg (by omega)]
    cases hp : pops v (D q).h (D q).dead u m n with
    | none =>
      have e1 : St.allE ⟨n, v, q + 1, D⟩ u m = 5 := by unfold St.allE; rw [hpop, hp]; rfl
      have e2 : St.allN ⟨n, v, q + 1, D⟩ u m = n := by unfold St.allN; rw [hpop, hp]; rfl
      refine (takeAll_bad g q c m cu (D q).h A u (D q).dead hm hA' hn (by omega) hf.f3 hf.f4 hle hp).mono fun e w' ⟨he, hm2, hk2⟩ => ⟨by rw [he, e1], ?_⟩
      rw [e2]
      exact .taken hs hX hF hm2 hk2 rfl
    | some r =>
      have e1 : St.allE ⟨n, v, q + 1, D⟩ u m = 0 := by unfold St.allE; rw [hpop, hp]; rfl
      have e2 : St.allN ⟨n, v, q + 1, D⟩ u m = r := by unfold St.allN; rw [hpop, hp]; rfl
      refine (takeAll_ok g q c m cu (D q).h r A u (D q).dead hm hA' hn (by omega) hf.f3 hf.f4 hle hp).mono fun e w' ⟨he, _, _, lj, hm2, hk2, hl⟩ => ⟨by rw [he, e1], ?_⟩
      rw [e2]
      exact .taken hs hX hF hm2 hk2 hl

theorem StkIs.base_le (h : StkIs w sb base X Z s) : base ≤ w.heap.size := Nat.le_trans (h.low sb h.sb_in) (Nat.le_of_lt h.sb_lt)

theorem push_is (A : Option Addr) (m cu : Nat) (u : Nat → UInt8) (h : StkIs w sb base X Z s) (hA : Sl w A m (byteV u)) (hA0 : A = none → m = 0) (hb : s.n + m ≤ 140737488351232) : Calls Try.prog 11 #[.pointer (some ⟨sb, 0, none⟩), .slice A m cu] w fun e w' =>
    e = .returned (.int .i64 0) ∧ Nx sb base X Z w (s.push u m) w' := by
  obtain ⟨lv, lf, F, hm, hX, hF⟩ := h.ex
  refine (push_any sb base s.n s.k m cu s.v u lv lf F A w hm hA hA0 (by omega) h.base_le).mono fun e w' ⟨he, lj, hm2, hk2, hl⟩ => ⟨he, ?_⟩
  have hst : Stp X (SK sb lj lf) w w' := ⟨hk2.mono (fun i hi => (hX i).1 (by
    rcases hi with e | e | e
    · exact .inl e
    · exact .inr (.inl e)
    · simp [Value.ownBlock] at e)), fun i hi => by
    rcases hi with e | e | e
    · exact .inl ((hX i).1 (.inl e))
    · rcases hl with hl | hl
      · exact .inl ((hX i).1 (.inr (.inl (by rw [← hl]; exact e))))
      · rw [hl] at e; cases e; exact .inr (Nat.le_refl _)
    · exact .inl ((hX i).1 (.inr (.inr e)))⟩
  exact ⟨_, ⟨⟨lj, lf, F, hm2, fun i => Iff.rfl, hF.step hst.z⟩, hst.low h.low h.base_le, fun i hi => Nat.lt_of_lt_of_le (h.zlt i hi) hst.kept.size⟩, hst⟩

theorem came_x {sb : Nat} {lj lk x : Value} {b n : Nat} {u : Nat → UInt8} {nv k : Nat} {v : Nat → UInt8} {F : Nat → Value} (hm : StkAt w sb base nv v lj k F lk) (hx : Own w b 30 1 IsByte x n (byteV u)) (ha : Apart x lj) (hn : n ≤ 140737488351232) (hz : ∀ i, Z i → i < b) : ∃ A c, x = .slice A n c ∧ Came (XZ (SK sb lj lk) Z) w A n c u :=
  came_own hx (fun g hg e => by
    rcases e with (e | e | e) | e
    · exact hx.ne_blk hm.obj (by decide) (by rw [hg]; exact congrArg some e)
    · exact ha g hg e
    · exact own_types hx hm.frs (by decide) g hg e
    · have := hz g e; have := (hx.lt g hg).1; omega) hn

theorem open_is (op : Int) (A B : Option Addr) (m c k d : Nat) (u t : Nat → UInt8) (h : StkIs w sb base X Z s) (hA : Came X w A m c u) (hB : Came S0 w B k d t) (hb : s.n + m ≤ 140737488351232) (hk : s.k ≤ 1000000000) : Calls Try.prog 12 #[.pointer (some ⟨sb, 0, none⟩), .int .u16 op, .slice A m c, .slice B k d] w fun e w' =>
    e = .returned (.int .i64 0) ∧ Nx sb base X Z w (s.open op m u k t) w' := by
  obtain ⟨lv, lf, F, hm, hX, hF⟩ := h.ex
  refine (open_any op m c k d s.k A B u t s.v sb base s.n lv lf F w hm (hA.mono (fun i hi => (hX i).1 hi)) hB hb hk h.base_le).mono fun e w' ⟨he, lj, lk, x, y, hm2, hk2, hx, hy, hax, hay, hl, hlk⟩ => ⟨he, ?_⟩
  have hst : Stp X (SK sb lj lk) w w' := ⟨hk2.mono (fun i hi => (hX i).1 hi), fun i hi => by
    rcases hi with e | e | e
    · exact .inl ((hX i).1 (.inl e))
    · rcases hl with hl | ⟨g, hl, hg⟩
      · exact .inl ((hX i).1 (.inr (.inl (by rw [← hl]; exact e))))
      · rw [hl] at e; cases e; exact .inr hg
    · rcases hlk with hl | ⟨g, hl, hg⟩
      · exact .inl ((hX i).1 (.inr (.inr (by rw [← hl]; exact e))))
      · rw [hl] at e; cases e; exact .inr hg⟩
  obtain ⟨xA, xc, rfl, hxc⟩ := came_x hm2 hx hax hA.le h.zlt
  obtain ⟨yA, yc, rfl, hyc⟩ := came_x hm2 hy hay hB.le h.zlt
  refine ⟨_, ⟨⟨lj, lk, _, hm2, fun i => Iff.rfl, fun q hq => ?_⟩, hst.low h.low h.base_le, fun i hi => Nat.lt_of_lt_of_le (h.zlt i hi) hst.kept.size⟩, hst⟩
  have hq' : q < s.k + 1 := hq
  by_cases e : q = s.k
  · subst e
    refine ⟨xA, xc, yA, yc, ?_⟩
    show FrAt _ s.k (if s.k = s.k then (⟨op, m, u, k, t, s.n, false⟩ : Frm) else s.D s.k).op _ _ _ _ ∧ _
    simp only [St.open, if_true]
    exact ⟨frAt_new s.k op _ _ s.n false, hxc, hyc⟩
  · have h1 := (hF.step hst.z).congr (G := after (s.k * 5) F (frC op (.slice xA m xc) (.slice yA k yc) s.n false)) (fun i hi => by unfold after; rw [if_pos hi]) q (by omega)
    simp only [St.open, if_neg e]
    exact h1

theorem values_is (h : StkIs w sb base X Z s) (hn : s.n ≤ 140737488351232) : Calls Try.prog 15 #[.pointer (some ⟨sb, 0, none⟩)] w fun e w' => ∃ x, e = .returned x ∧ Own w' w.heap.size 30 1 IsByte x s.n (byteV s.v) ∧ Kept S0 w w' := by
  obtain ⟨lv, lf, F, hm, hX, hF⟩ := h.ex
  exact values_any hm hn

theorem dead_is (h : StkIs w sb base X Z s) (hw : s.Wf) : Calls Try.prog 17 #[.pointer (some ⟨sb, 0, none⟩)] w fun e w' => e = .returned (.int .i64 s.deadE) ∧ Nx sb base X Z w s.dead w' := by
  obtain ⟨lv, lf, F, hm, hX, hF⟩ := h.ex
  have hs := h
  rcases s with ⟨n, v, k, D⟩
  have hm : StkAt w sb base n v lv k F lf := hm
  rcases Nat.eq_zero_or_pos k with rfl | hk0
  · exact (dead_empty hm).mono fun e w' ⟨he, hk⟩ => ⟨he, .same hs hk⟩
  · obtain ⟨q, rfl⟩ : ∃ q, k = q + 1 := ⟨k - 1, by omega⟩
    obtain ⟨g, c, rfl⟩ := hm.lf_some
    obtain ⟨A, c1, B, c2, hf, hA, hB⟩ := hF q (by exact Nat.lt_succ_self q)
    have hq : q + 1 ≤ 1000000000 := hw.k
    have hn : n ≤ 140737488351232 := hw.n
    have hle : (D q).h ≤ n := hw.le q (Nat.lt_succ_self q)
    refine (dead_any g q c (D q).h hm (by omega) hf.f3 hle hn).mono fun e w' ⟨he, lj, hm2, hk2, hl⟩ => ⟨he, ?_⟩
    have hst : Stp X X w w' := .of hk2 (fun i hi => (hX i).1 (by
      rcases hi with e | e
      · exact .inl e
      · exact .inr (.inr (by rw [e]; rfl))))
    refine ⟨X, ⟨⟨lj, _, _, hm2, fun i => by unfold SK; rw [hl]; exact hX i, fun r hr => ?_⟩, hs.low, fun i hi => Nat.lt_of_lt_of_le (hs.zlt i hi) hst.kept.size⟩, hst⟩
    have hr' : r < q + 1 := hr
    by_cases e : r = q
    · subst e
      have hh := hF.step hst.z r hr'
      obtain ⟨A, c1, B, c2, hf, hA, hB⟩ := hh
      refine ⟨A, c1, B, c2, ?_⟩
      show FrAt (deadF F r) r (if r = r + 1 - 1 then ({ (D (r + 1 - 1)) with dead := true } : Frm) else D r).op _ _ _ _ ∧ _
      simp only [St.dead, St.top, Nat.add_sub_cancel, if_true, if_neg (show ¬ (r + 1 = 0) by omega)]
      exact ⟨deadF_at hf, hA, hB⟩
    · have h1 := hF.step hst.z r hr'
      obtain ⟨A, c1, B, c2, hf, hA, hB⟩ := h1
      simp only [St.dead, St.top, Nat.add_sub_cancel, if_neg (show ¬ (q + 1 = 0) by omega), if_neg e]
      refine ⟨A, c1, B, c2, ⟨?_, ?_, ?_, ?_, ?_⟩, hA, hB⟩
      · unfold deadF; rw [if_neg (by omega)]; exact hf.f0
      · unfold deadF; rw [if_neg (by omega)]; exact hf.f1
      · unfold deadF; rw [if_neg (by omega)]; exact hf.f2
      · unfold deadF; rw [if_neg (by omega)]; exact hf.f3
      · unfold deadF; rw [if_neg (by omega)]; exact hf.f4

/-- A frame as a value, its lists as they read. -/
def FrIs (w : World) (x : Value) (d : Frm) : Prop := ∃ A c B e, x = .agg #[.int .u16 d.op, .slice A d.n c, .slice B d.m e, .int .i64 (d.h : Int), .bool d.dead] ∧ Came S0 w A d.n c d.u ∧ Came S0 w B d.m e d.t
theorem FrIs.kept0 {x : Value} {d : Frm} (h : FrIs w x d) (hk : Kept S0 w w') : FrIs w' x d := by
  obtain ⟨A, c, B, e, h1, h2, h3⟩ := h
  exact ⟨A, c, B, e, h1, h2.kept hk, h3.kept hk⟩
theorem frIs_zero (w : World) : FrIs w (.agg #[.int .u16 0, .slice none 0 0, .slice none 0 0, .int .i64 0, .bool false]) frm0 := ⟨none, 0, none, 0, rfl, came_nil _, came_nil _⟩

theorem close_is (h : StkIs w sb base X Z s) (hw : s.Wf) : Calls Try.prog 19 #[.pointer (some ⟨sb, 0, none⟩)] w fun e w' =>
    (∃ x, e = .returned (.tuple #[x, .int .i64 s.closeE]) ∧ FrIs w' x s.closeF) ∧ Nx sb base X Z w s.close w' := by
  obtain ⟨lv, lf, F, hm, hX, hF⟩ := h.ex
  have hs := h
  rcases s with ⟨n, v, k, D⟩
  have hm : StkAt w sb base n v lv k F lf := hm
  have ref : ∀ {w' : World} {e : Ending} {lj : Value}, St.closeE ⟨n, v, k, D⟩ = 5 → e = .returned (.tuple #[.agg #[.int .u16 0, .slice none 0 0, .slice none 0 0, .int .i64 0, .bool false], .int .i64 5]) → Nx sb base X Z w ⟨n, v, k, D⟩ w' → (∃ x, e = .returned (.tuple #[x, .int .i64 (St.closeE ⟨n, v, k, D⟩)]) ∧ FrIs w' x (St.closeF ⟨n, v, k, D⟩)) ∧ Nx sb base X Z w (St.close ⟨n, v, k, D⟩) w' := fun {w' e lj} hE he hN => by
    have e1 : St.closeF ⟨n, v, k, D⟩ = frm0 := by unfold St.closeF; rw [hE, if_neg (by decide)]
    have e2 : St.close ⟨n, v, k, D⟩ = ⟨n, v, k, D⟩ := by unfold St.close; rw [hE, if_neg (by decide)]
    rw [hE, e1, e2]
    exact ⟨⟨_, he, frIs_zero w'⟩, hN⟩
  rcases Nat.eq_zero_or_pos k with rfl | hk0
  · exact (close_none hm).mono fun e w' ⟨he, hk⟩ => ref (lj := lv) rfl he (.same hs hk)
  · obtain ⟨q, rfl⟩ : ∃ q, k = q + 1 := ⟨k - 1, by omega⟩
    obtain ⟨g, c, rfl⟩ := hm.lf_some
    obtain ⟨A2, c1, B2, c2, hf, hxA, hyB⟩ := hF q (by exact Nat.lt_succ_self q)
    have hq : q + 1 ≤ 1000000000 := hw.k
    have hn : n ≤ 140737488351232 := hw.n
    have hle : (D q).h ≤ n := hw.le q (Nat.lt_succ_self q)
    have hy1 : Came (S1 sb) w B2 (D q).m c2 (D q).t := hyB.mono (fun i hi => by have e : i = sb := hi; rw [e]; exact .inl hs.sb_in)
    have hpop : St.pop ⟨n, v, q + 1, D⟩ (D q).t (D q).m = pops v (D q).h (D q).dead (D q).t (D q).m n := by
      show (if q + 1 = 0 then none else pops v (D q).h (D q).dead (D q).t (D q).m n) = _
      rw [if_neg (by omega)]
    have hcE : St.closeE ⟨n, v, q + 1, D⟩ = if pops v (D q).h (D q).dead (D q).t (D q).m n = some (D q).h then 0 else 5 := by
      show (if St.pop ⟨n, v, q + 1, D⟩ (D q).t (D q).m = some (D q).h then (0 : Int) else 5) = _
      rw [hpop]
    cases hp : pops v (D q).h (D q).dead (D q).t (D q).m n with
    | none =>
      refine (close_bad g q c (D q).h (D q).m (D q).op _ _ (D q).t (D q).dead hm hf ⟨_, _, _, rfl⟩ ⟨_, _, rfl, hy1⟩ hn (by omega) hle hp).mono fun e w' ⟨he, hm2, hk2⟩ => ref (lj := lv) ?_ he (.taken hs hX hF hm2 hk2 rfl)
      rw [hcE, hp, if_neg (by intro e; cases e)]
    | some r =>
      by_cases hr : r = (D q).h
      · rw [hr] at hp
        have hE : St.closeE ⟨n, v, q + 1, D⟩ = 0 := by rw [hcE, hp, if_pos rfl]
        have e1 : St.closeF ⟨n, v, q + 1, D⟩ = D q := by unfold St.closeF; rw [hE, if_pos rfl]; rfl
        have e2 : St.close ⟨n, v, q + 1, D⟩ = ⟨(D q).h, v, q, D⟩ := by unfold St.close; rw [hE, if_pos rfl]; rfl
        refine (close_ok g q c (D q).h (D q).m (D q).op _ _ (D q).t (D q).dead hm hf ⟨_, _, _, rfl⟩ ⟨_, _, rfl, hy1⟩ hn (by omega) hle hp).mono fun e w' ⟨he, lj, hm2, hk2, hl⟩ => ?_
        have hst : Stp X X w w' := .of hk2 (fun i hi => by have e : i = sb := hi; rw [e]; exact hs.sb_in)
        rw [hE, e1, e2]
        refine ⟨⟨_, he, ⟨A2, c1, B2, c2, rfl, (hxA.step hst.z).mono (fun _ x => x.elim), (hyB.step hst.z).mono (fun _ x => x.elim)⟩⟩, X, ⟨⟨lj, _, F, hm2, fun i => ?_, fun r hr => hF.step hst.z r (Nat.lt_succ_of_lt (show r < q from hr))⟩, hs.low, fun i hi => Nat.lt_of_lt_of_le (hs.zlt i hi) hst.kept.size⟩, hst⟩
        have h := hX i
        unfold SK at h ⊢
        rw [hl]
        exact h
      · refine (close_short g q c (D q).h (D q).m r (D q).op _ _ (D q).t (D q).dead hm hf ⟨_, _, _, rfl⟩ ⟨_, _, rfl, hy1⟩ hn (by omega) hle hp hr).mono fun e w' ⟨he, hm2, hk2⟩ => ref (lj := lv) ?_ he (.taken hs hX hF hm2 hk2 rfl)
        rw [hcE, hp, if_neg (by intro e; cases e; exact hr rfl)]
end
end Go.Proofs.Ytpbaojjcbpfdaaa
