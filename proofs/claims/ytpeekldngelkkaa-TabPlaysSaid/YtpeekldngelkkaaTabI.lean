/- Contracts of a table's Copy. No condition. -/
import Derived.Test.YtpeekldngelkkaaTabD
namespace Go.Proofs.Ytpeekldngelkkaa
open Go.RowKit

theorem wpList_copy_zero {P : Program} {w : World} {ops : Array Oper} {rest : List Oper} {o : Oper} {a : Act} {Q : Exit → Act → World → Prop} (hgd : o.guard = none) (d s : Operand) (dT sT : TypeId)
    (ho : o.op = .call { callee := .builtin .copy, args := #[d, s], argTypes := #[dT, sT] }) (elem : TypeId) (size : Nat) (hu : P.underlying dT = some (.slice elem)) (hsz : (P.info? elem).map (·.size) = some size)
    (D A : Option Addr) (dl dc sl sc : Nat) (hd : a.eval d = .slice D dl dc) (hs : a.eval s = .slice A sl sc) (hm : Nat.min sl dl = 0)
    (h : wpList P ops Q rest (a.put o.dst (.int .i64 (0 : Int))) w) :
    wpList P ops Q (o :: rest) a w := by
  refine wpList_plain hgd fun K hK => ?_
  obtain ⟨i, hi, hz⟩ := Option.map_eq_some_iff.1 hsz
  have hl : ∀ (x : Addr), (loadCells x 0).run P w = .ok #[] w := fun x => by simpa using run_loadCells_list (P := P) w x [] (by simp)
  have hrun : (Builtin.copy_ #[dT, sT] o.type #[.slice D dl dc, .slice A sl sc]).run P w = .ok (.int .i64 (0 : Int)) w := by
    cases D <;> cases A <;> simp [Builtin.copy_, run_underlying hu, Builtin.lenOf, Builtin.firstCells, sizeOf, typeInfo, hi, hm, storeCells, hl, goInt]
  unfold Oper.wp
  simp [execOp, ho, resolve, invoke, builtin, hd, hs, hrun, Result.andThen]
  exact hK _ _ h

section
variable {w : World} {ta tb ba bb Na Nb : Nat} {el mna mnb mxa mxb : Int} {bda bdb : Bool} {la lb : Value} {fa fb : Nat → V3}

set_option maxHeartbeats 1600000 in
theorem copy_out (x y n : Int) (ha : TabAt w ta ba Na el mna mxa bda la fa) (hb : TabAt w tb bb Nb el mnb mxb bdb lb fb) (hNa : Na ≤ 16384) (hNb : Nb ≤ 16384) (h1 : 0 ≤ x) (h2 : 0 ≤ y) (h3 : 0 ≤ n) (h4 : x ≤ 4294967295) (h5 : y ≤ 4294967295) (h6 : n ≤ 4294967295) (ho : inB x n Na = false ∨ inB y n Nb = false) :
    Calls Try.prog 11 #[.pointer (some ⟨ta, 0, none⟩), .int .u32 x, .pointer (some ⟨tb, 0, none⟩), .int .u32 y, .int .u32 n] w fun e w' => e = .returned (.int .i64 6) ∧ Kept S0 w w' := by
  obtain ⟨A, c, rfl, _, _, _⟩ := ha.own.out
  obtain ⟨B, d, rfl, _, _, _⟩ := hb.own.out
  have c0 := ha.c0
  have c1 := ha.c1
  have c5 := ha.c5
  have d0 := hb.c0
  have d1 := hb.c1
  have d5 := hb.c5
  have e1 : (el == el) = true := beq_self_eq_true el
  by_cases hx : inB x n Na = false
  · have HX := Lib.hid hx
    clear hx ho ha hb
    go_enter Try.func11, Try.ntmps11
    go_wp2_with fail
    refine (off_made _ _ c0).mono ?_
    rintro e w1 ⟨rfl, rfl⟩
    go_wp2_with fail
    refine (off_made _ _ d0).mono ?_
    rintro e w1 ⟨rfl, rfl⟩
    go_wp2_with fail
    go_quiet (fail)
    go_wp2_with fail
    refine (within_any _ _ _ _ h1 h3 (by omega) (by omega) h4 h6).mono ?_
    rintro e w1 ⟨rfl, rfl⟩
    rw [HX.out]
    go_wp2_with fail
    go_ret
    exact ⟨rfl, (Kept.refl S0 w).drewN _⟩
  · have HX := Lib.hid (show inB x n Na = true by simpa using hx)
    have HY := Lib.hid (ho.resolve_left hx)
    clear hx ho ha hb
    go_enter Try.func11, Try.ntmps11
    go_wp2_with fail
    refine (off_made _ _ c0).mono ?_
    rintro e w1 ⟨rfl, rfl⟩
    go_wp2_with fail
    refine (off_made _ _ d0).mono ?_
    rintro e w1 ⟨rfl, rfl⟩
    go_wp2_with fail
    go_quiet (fail)
    go_wp2_with fail
    refine (within_any _ _ _ _ h1 h3 (by omega) (by omega) h4 h6).mono ?_
    rintro e w1 ⟨rfl, rfl⟩
    rw [HX.out]
    go_wp2_with fail
    refine (within_any _ _ _ _ h2 h3 (by omega) (by omega) h5 h6).mono ?_
    rintro e w1 ⟨rfl, rfl⟩
    rw [HY.out]
    go_wp2_with fail
    go_ret
    exact ⟨rfl, (Kept.refl S0 w).drewN _⟩

set_option maxHeartbeats 1600000 in
theorem copy_in (x y n : Nat) (ha : TabAt w ta ba Na el mna mxa bda la fa) (hb : TabAt w tb bb Nb el mnb mxb bdb lb fb) (hNa : Na ≤ 16384) (hNb : Nb ≤ 16384) (hx : x + n ≤ Na) (hy : y + n ≤ Nb) :
    Calls Try.prog 11 #[.pointer (some ⟨ta, 0, none⟩), .int .u32 (x : Int), .pointer (some ⟨tb, 0, none⟩), .int .u32 (y : Int), .int .u32 (n : Int)] w fun e w' => e = .returned (.int .i64 0) ∧ TabAt w' ta ba Na el mna mxa bda la (overV fa x n (fun i => fb (y + i))) ∧ Kept (SO la) w w' := by
  obtain ⟨A, c, hla, hAc, _, hAs⟩ := ha.own.out
  obtain ⟨B, d, hlb, hBd, _, hBs⟩ := hb.own.out
  have c0 := ha.c0
  have c1 := ha.c1
  have c5 := ha.c5
  have d0 := hb.c0
  have d1 := hb.c1
  have d5 := hb.c5
  rw [hla] at c5
  rw [hlb] at d5
  have e1 : (el == el) = true := beq_self_eq_true el
  have u1 : IntKind.i64.wrap (x : Int) = (x : Int) := IntWalk.i64_in _ (by omega)
  have u2 : IntKind.i64.wrap (y : Int) = (y : Int) := IntWalk.i64_in _ (by omega)
  have u3 : IntKind.i64.wrap (n : Int) = (n : Int) := IntWalk.i64_in _ (by omega)
  have u4 : IntKind.i64.wrap ((x : Int) + (n : Int)) = (x : Int) + (n : Int) := IntWalk.i64_in _ (by omega)
  have u5 : IntKind.i64.wrap ((y : Int) + (n : Int)) = (y : Int) + (n : Int) := IntWalk.i64_in _ (by omega)
  obtain ⟨D1, r1, q1⟩ := run_cutS (P := Try.prog) 24 43 3 Try.underlying24 Try.sizeV A Na c .u32 .i64 (x : Int) ((x : Int) + (n : Int)) x n rfl (by omega) (by omega)
  obtain ⟨D2, r2, q2⟩ := run_cutS (P := Try.prog) 24 43 3 Try.underlying24 Try.sizeV B Nb d .u32 .i64 (y : Int) ((y : Int) + (n : Int)) y n rfl (by omega) (by omega)
  have HD1 := Lib.hid q1
  have HD2 := Lib.hid q2
  have HA := Lib.hid ha
  have HBS := Lib.hid hBs
  have HX := Lib.hid (inB_true hx)
  have HY := Lib.hid (inB_true hy)
  clear q1 q2 ha hb hAs hBs
  go_enter Try.func11, Try.ntmps11
  go_wp2_with fail
  refine (off_made _ _ c0).mono ?_
  rintro e w1 ⟨rfl, rfl⟩
  go_wp2_with fail
  refine (off_made _ _ d0).mono ?_
  rintro e w1 ⟨rfl, rfl⟩
  go_wp2_with fail
  go_quiet (fail)
  go_wp2_with fail
  refine (within_any _ _ _ _ (by omega) (by omega) (by omega) (by omega) (by omega) (by omega)).mono ?_
  rintro e w1 ⟨rfl, rfl⟩
  rw [HX.out]
  go_wp2_with fail
  refine (within_any _ _ _ _ (by omega) (by omega) (by omega) (by omega) (by omega) (by omega)).mono ?_
  rintro e w1 ⟨rfl, rfl⟩
  rw [HY.out]
  go_wp2_with fail
  have ha2 := HA.out.drewN nq
  have hs2 : Sl (w.drewN nq) B (Nb * 3) (vcell fb) := (HBS.out.slb.kept ((Kept.refl S0 w).drewN nq) (Nat.le_refl _) (fun _ h => h.elim)).sl
  have hk2 := (Kept.refl S0 w).drewN nq
  have t5 : (w.drewN nq).cell? ⟨tb, 5, none⟩ = some (.slice B Nb d) := d5
  have s5 : (w.drewN nq).cell? ⟨ta, 5, none⟩ = some (.slice A Na c) := c5
  clear c0 c1 c5 d0 d1 d5
  generalize w.drewN nq = w2 at *
  have HA2 := Lib.hid ha2
  have HS2 := Lib.hid hs2
  clear ha2 hs2
  go_still_tail 22, (by kernel_rfl)
  change wpList _ _ _ _ _ w2.drew
  by_cases hn : n = 0
  · subst hn
    refine wpList_copy_zero rfl (.tmp 61) (.tmp 72) 24 24 rfl 43 3 Try.underlying24 Try.sizeV D1 D2 _ _ _ _ rfl rfl (Nat.min_self _) ?_
    go_wp2
    go_ret
    refine ⟨rfl, ?_, (hk2.drew).of0 _⟩
    rw [overV_none]
    exact HA2.out.drew
  · rcases HA2.out.own with ⟨_, h0⟩ | ⟨g, cap, fr, hl2, hbg, hNc, hcm, hrow, hF, hQ⟩
    · omega
    have hg : A = some ⟨g, 0, none⟩ ∧ c = cap := by rw [hla] at hl2; cases hl2; exact ⟨rfl, rfl⟩
    obtain ⟨rfl, rfl⟩ := hg
    have hob : la.ownBlock = some g := by rw [hla]; rfl
    have hgb := HA2.out.own.ne_blk HA2.out.obj (by decide)
    have HROW := Lib.hid hrow
    have HFF := Lib.hid hF
    clear hrow hF hQ
    refine wpList_copy_any rfl (.tmp 61) (.tmp 72) 24 24 rfl 43 3 Try.underlying24 Try.sizeV D1 D2 _ _ _ _ rfl rfl g 43 (c * 3) (x * 3) n fr (vcell (fun i => fb (y + i))) (Nat.min_self _) (World.rowIs.drew HROW.out) (fun hp => by rw [HD1.out, if_neg (by omega)]; simp [Addr.add_lit]) (by
      rw [HD2.out]
      have h := (Sl.cutS 3 HS2.out (k := y) (m := n) (cap := d) (by omega) (by omega)).congr (fun i _ => vcell_shift fb y i)
      exact (h.slb.kept (Kept.refl S0 w2).drew (Nat.le_refl _) (fun _ h => h.elim)).sl) (.inr (by omega)) (fun _ _ => vcell_one _ _) ?_
    intro w' hcp
    go_wp2
    go_ret
    have hk3 : Kept (SO la) w2 w' := ((Kept.refl (SO la) w2).drew).trans_ hcp.kept (fun i hi => .inl (by cases hi; exact hob))
    refine ⟨rfl, ⟨hk3.blk HA2.out.obj (fun e => hgb e), ?_, HA2.out.lo⟩, (hk2.of0 _).trans hk3⟩
    rw [hla]
    refine .inr ⟨g, c, _, rfl, hbg, hNc, hcm, hcp.row, fun i hi => ?_, fun _ _ => trivial⟩
    rw [← overlay_vcell]
    unfold overlay
    by_cases h : x * 3 ≤ i ∧ i < x * 3 + n * 3
    · rw [if_pos h, if_pos h]
    · rw [if_neg h, if_neg h]; exact HFF.out i hi
end
end Go.Proofs.Ytpeekldngelkkaa
