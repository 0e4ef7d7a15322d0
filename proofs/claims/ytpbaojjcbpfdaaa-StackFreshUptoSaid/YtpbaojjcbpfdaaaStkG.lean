/- Contracts of a checker's calls where they are refused; of Label, of Frames. No condition. -/
import Derived.Test.YtpbaojjcbpfdaaaStkL
namespace Go.Proofs.Ytpbaojjcbpfdaaa
open Go.RowKit

section
variable {P : Program}
/-- append of one element where there is room. -/
theorem wpList_append_one {w : World} {ops : Array Oper} {rest : List Oper} {o : Oper} {a : Act} {Q' : Exit → Act → World → Prop} (hgd : o.guard = none) (s x : Operand) (t : TypeId)
    (ho : o.op = .call { callee := .builtin .append, args := #[s, x], argTypes := #[t, t] })
    (e : TypeId) (ht : P.underlying t = some (.slice e)) (hinfo : (P.info? e).map (·.size) = some 1)
    (g j cap N : Nat) (f : Nat → Value) (hs : a.eval s = .slice (some ⟨g, 0, none⟩) j cap) (hrow : w.rowIs g e N f) (hj : j < N) (hcap : j < cap)
    (b : Nat) (off m c : Nat) (u : Value) (hx : a.eval x = .slice (some ⟨b, off, none⟩) m c) (hm : m = 1) (hu : w.cell? ⟨b, off, none⟩ = some u) (h1 : u.oneCell' = true)
    (h : ∀ w', Kept (S1 g) w w' → w'.heap.size = w.heap.size → w'.heap[g]? = (w.setCell ⟨g, j, none⟩ u).heap[g]? → wpList P ops Q' rest (a.put o.dst (.slice (some ⟨g, 0, none⟩) (j + 1) cap)) w') : wpList P ops Q' (o :: rest) a w := by
  subst hm
  refine wpList_plain hgd fun K hK => ?_
  obtain ⟨i, hi, hsz⟩ := Option.map_eq_some_iff.1 hinfo
  have hsz : i.size = 1 := hsz
  obtain ⟨cur, hg, hN, hcur⟩ := hrow
  have hr := run_append_room (P := P) w t o.type e i ht hi g j cap cur hg ⟨b, off, none⟩ 1 c [u] (by simp [hsz]) (fun k z hz => by
    have hk : k = 0 := by
      rcases Nat.eq_zero_or_pos k with h | h
      · exact h
      · rw [List.getElem?_eq_none (show [u].length ≤ k from h)] at hz; cases hz
    subst hk
    simp at hz
    subst hz
    rw [Addr.add_lit]
    exact hu) (by simpa using h1) (by omega) (by simp [hsz]; omega)
  unfold Oper.wp execOp
  simp only [ho, resolve, invoke, builtin, Sem.run_bind, Sem.run_pure, Result.andThen_ok, List.map_toArray, List.map_cons, List.map_nil, hs, hx, hr]
  refine hK _ _ (h _ ?_ ?_ ?_)
  · refine ⟨rfl, rfl, rfl, ?_, fun k _ hk => ?_⟩
    · simp [World.setRow]
    · have : k ≠ g := fun e => hk e
      simp [World.setRow, Array.getElem?_modify, Ne.symm this]
  · simp [World.setRow]
  · simp [World.setRow, World.setCell, Array.getElem?_modify, hg, hsz]
    rw [← Array.toList_inj]
    simp only [Array.toList_setIfInBounds, List.set_eq_take_append_cons_drop, Array.length_toList]
    rw [if_pos (by omega)]
end

/-- A cell that is stored anew with what it held: the block is as it was. -/
theorem setCell_same {w : World} {g e N j : Nat} {f : Nat → Value} (hrow : w.rowIs g e N f) (hj : j < N) : (w.setCell ⟨g, j, none⟩ (f j)).heap[g]? = w.heap[g]? := by
  obtain ⟨cur, hg, hN, hcur⟩ := hrow
  simp only [World.setCell, Array.getElem?_modify, hg]
  simp only [if_true, Option.map_some]
  have h2 : j < cur.size := by omega
  have h3 := hcur j hj
  congr 2
  show cur.setIfInBounds j (f j) = cur
  rw [← Array.toList_inj, Array.toList_setIfInBounds]
  apply List.ext_getElem?
  intro k
  rw [List.getElem?_set]
  split
  · rename_i h; subst h
    rw [if_pos (by simpa using h2)]
    simpa using h3.symm
  · rfl

section
variable {w : World} {sb base n k : Nat} {v : Nat → UInt8} {lv lf : Value} {F : Nat → Value}

set_option maxHeartbeats 800000 in
theorem take_empty (hm : StkAt w sb base n v lv 0 F lf) : Calls Try.prog 13 #[.pointer (some ⟨sb, 0, none⟩)] w fun e w' => e = .returned (.tuple #[.int .u8 0, .int .i64 5]) ∧ Kept S0 w w' := by
  have c0 := hm.c0
  have c2 := hm.c2
  obtain ⟨A, c, hlf, _, _, _⟩ := hm.frs.out
  rw [hlf] at c2
  clear hm
  go_enter Try.func13, Try.ntmps13
  go_wp2_with fail
  refine (off_made _ _ c0).mono ?_
  rintro e w1 ⟨rfl, rfl⟩
  go_wp2_with fail
  go_ret2
  exact ⟨rfl, Kept.refl _ _⟩

/-- Where Take is refused, so is TakeOf. -/
theorem takeOf_ref (t : UInt8) (hm : StkAt w sb base n v lv k F lf) (HT0 : Calls Try.prog 13 #[.pointer (some ⟨sb, 0, none⟩)] w fun e w' => e = .returned (.tuple #[.int .u8 0, .int .i64 5]) ∧ Kept S0 w w') :
    Calls Try.prog 23 #[.pointer (some ⟨sb, 0, none⟩), .int .u8 (t.toNat : Int)] w fun e w' => e = .returned (.tuple #[.int .u8 0, .int .i64 5]) ∧ Kept S0 w w' := by
  have c0 := hm.c0
  have c1 := hm.c1
  obtain ⟨A, cv, hlv, hvc, _, _⟩ := hm.vals.out
  rw [hlv] at c1
  have HT := Lib.hid HT0
  clear hm HT0
  go_enter Try.func23, Try.ntmps23
  go_wp2_with fail
  refine (off_made _ _ c0).mono ?_
  rintro e w1 ⟨rfl, rfl⟩
  go_wp2_with fail
  refine HT.out.mono ?_
  rintro e w1 ⟨rfl, hk⟩
  go_wp2_with fail
  go_ret2
  exact ⟨rfl, hk⟩

theorem Kept.same {g : Nat} {a w : World} (h : Kept (S1 g) a w) (he : w.heap[g]? = a.heap[g]?) : Kept S0 a w := ⟨h.os, h.tape, h.output, h.size, fun i hi _ => by
  by_cases e : i = g
  · rw [e]; exact he
  · exact h.block i hi (fun x => e x)⟩

set_option maxHeartbeats 1600000 in
theorem takeOf_bad (g q c j ht : Nat) (t : UInt8) (hm : StkAt w sb base (j + 1) v lv (q + 1) F (.slice (some ⟨g, 0, none⟩) (q + 1) c)) (hn : j ≤ 140737488351232) (hq : q ≤ 140737488351232) (hh : F (q * 5 + 3) = .int .i64 (ht : Int)) (hlt : ht ≤ j) (hc : ¬ (v j = t ∨ v j = 0 ∨ t = 0)) :
    Calls Try.prog 23 #[.pointer (some ⟨sb, 0, none⟩), .int .u8 (t.toNat : Int)] w fun e w' => e = .returned (.tuple #[.int .u8 0, .int .i64 5]) ∧ StkAt w' sb base (j + 1) v lv (q + 1) F (.slice (some ⟨g, 0, none⟩) (q + 1) c) ∧ Kept (S1 sb) w w' := by
  have c0 := hm.c0
  have c1 := hm.c1
  rcases hm.vals with ⟨_, h0⟩ | ⟨gv, cv, frv, hlv, hbv, hnv, hcv, hrv, hFv, hQv⟩
  · omega
  subst hlv
  have TK := Lib.hid (take_value g q c j ht hm hn hq hh hlt)
  have hgs : gv ≠ sb := fun e => hm.ne_v (by rw [← e]; rfl)
  have e1 : (((v j).toNat : Int) == (t.toNat : Int)) = false := beq_eq_false_iff_ne.2 (fun e => hc (.inl (UInt8.toNat_inj.1 (by omega))))
  have e2 : (((v j).toNat : Int) == 0) = false := beq_eq_false_iff_ne.2 (fun e => hc (.inr (.inl (UInt8.toNat_inj.1 (by rw [UInt8.toNat_zero]; omega)))))
  have e3 : ((t.toNat : Int) == 0) = false := beq_eq_false_iff_ne.2 (fun e => hc (.inr (.inr (UInt8.toNat_inj.1 (by rw [UInt8.toNat_zero]; omega)))))
  have u1 : (j : Int) < (j : Int) + 1 := by omega
  have hfj : frv j = .int .u8 ((v j).toNat : Int) := hFv j (by omega)
  rw [Nat.mul_one] at hrv
  have HM := Lib.hid hm
  have HR := Lib.hid hrv
  clear hm hc hrv hFv hQv
  go_enter Try.func23, Try.ntmps23
  go_wp2_with fail
  refine (off_made _ _ c0).mono ?_
  rintro e w1 ⟨rfl, rfl⟩
  go_wp2_with fail
  refine TK.out.mono ?_
  rintro e w1 ⟨rfl, lj, hm1, hk1, _, hlj⟩
  obtain rfl := hlj gv cv rfl
  have t1 : w1.cell? ⟨sb, 1, none⟩ = some (.slice (some ⟨gv, 0, none⟩) j cv) := hm1.c1
  have hr1 := hk1.row HR.out hgs
  have hka := (Kept.refl S0 w1).alloc (.cells #[.int .u8 ((v j).toNat : Int)] 30)
  have hra := hka.row hr1 (fun x => x)
  have hoa := hka.blk hm1.obj (fun x => x)
  have hna := (Blk.new w1 30 #[.int .u8 ((v j).toNat : Int)]).cell 0
  have HK1 := Lib.hid hk1
  clear hm1 hk1 hka hr1 TK
  go_wp2_with (at_builtin; refine wpList_append_one rfl (.tmp 50) (.tmp 52) 22 rfl 30 Try.underlying22 Try.sizeT gv j cv cv frv rfl hra (by omega) (by omega) _ 0 1 1 (.int .u8 ((v j).toNat : Int)) rfl rfl hna rfl ?_)
  intro w' hk' hsz' hg'
  have hse := setCell_same hra (j := j) (by omega)
  rw [hfj] at hse
  rw [hse] at hg'
  have hk0 := hk'.same hg'
  have hob := hk0.blk hoa (fun x => x)
  have x1 := hob.cell 1
  have z1 := hob.frozen 1
  have HO := Lib.hid hob
  have HK0 := Lib.hid hk0
  clear hk' hg' hra hoa hob hk0 hna
  go_wp2_with fail
  go_ret2
  have hkk : Kept (S1 sb) w (w'.setCell ⟨sb, 1, none⟩ (.slice (some ⟨gv, 0, none⟩) (j + 1) cv)) := (((HK1.out.then0 ((Kept.refl S0 w1).alloc _)).then0 HK0.out)).setCell (p := ⟨sb, 1, none⟩) (.inl rfl) _
  refine ⟨rfl, ⟨HO.out.set_ 1 _, HM.out.vals.kept hkk (fun g' hg e => HM.out.ne_v (by rw [hg]; exact congrArg some e)), HM.out.frs.kept hkk (fun g' hg e => HM.out.ne_f (by rw [hg]; exact congrArg some e)), HM.out.lo⟩, hkk⟩
end
end Go.Proofs.Ytpbaojjcbpfdaaa
