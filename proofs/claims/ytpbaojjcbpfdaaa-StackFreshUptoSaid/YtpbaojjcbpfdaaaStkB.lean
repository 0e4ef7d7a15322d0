/- Contracts of slices.Clone, Values, top, Take. No condition. -/
import Derived.Test.YtpbaojjcbpfdaaaStkA
import Derived.Lib.SliceRun
namespace Go.Proofs.Ytpbaojjcbpfdaaa
open Go.RowKit

set_option maxHeartbeats 400000 in
theorem clone_some (p : Addr) (n c : Nat) (v : Nat → UInt8) (w : World) (hn : n ≤ 140737488351232) (hA : Sl w (some p) n (byteV v)) :
    Calls Try.prog 27 #[.slice (some p) n c] w fun e w' => ∃ g cap, e = .returned (.slice (some ⟨g, 0, none⟩) n cap) ∧ Own w' w.heap.size 30 1 IsByte (.slice (some ⟨g, 0, none⟩) n cap) n (byteV v) ∧ Kept S0 w w' := by
  have q := fun (w : World) (a : Option Addr) (n c n' c' : Nat) => Lib.run_eql_slice_nil (P := Try.prog) w 22 30 a n c n' c' Try.underlying22
  have hown : Own (w.alloc (.cells #[] 30)) w.heap.size 30 1 IsByte (.slice (some ⟨w.heap.size, 0, none⟩) 0 0) 0 (byteV v) :=
    .inr ⟨w.heap.size, 0, fun _ => undef, rfl, Nat.le_refl _, Nat.le_refl _, Nat.zero_le _, ⟨#[], heap_alloc_new w _, rfl, fun i hi => absurd hi (by omega)⟩, fun i hi => absurd hi (by omega), fun i hi => absurd hi (by omega)⟩
  have hsl : Sl (w.alloc (.cells #[] 30)) (some p) (n * 1) (byteV v) := by
    rw [Nat.mul_one]
    exact (hA.slb.kept ((Kept.refl S0 w).alloc _) (Nat.le_refl _) (fun _ h => h.elim)).sl
  go_enter Try.func27, Try.ntmps27
  go_wp2_with (at_builtin; refine wpList_append_all rfl (.tmp 5) (.tmp 6) 22 rfl w.heap.size 30 (.int .u8 0) 1 1 Try.underlying22 Try.infoT rfl (by decide) IsByte (fun u hu => ⟨0, by simpa [Value.cells] using hu⟩) _ 0 (byteV v) rfl hown (some p) n c (byteV v) rfl hsl (fun h => by cases h) (fun j _ => byteV_is v j) (fun _ _ => rfl) (by unfold maxLen; omega) (by omega) (by simp) ?_)
  intro v' w' ha
  have H1 := Lib.hid ha
  obtain ⟨A', c', rfl, _⟩ := ha.own.out
  have hk : Kept S0 w w' := ((Kept.refl S0 w).alloc (.cells #[] 30)).grown ha.grown (fun k hk => by cases hk; exact .inr (Nat.le_refl _))
  have HK := Lib.hid hk
  clear hk ha
  go_wp2
  go_ret
  obtain ⟨g, rfl⟩ : ∃ g, A' = some ⟨g, 0, none⟩ := by
    rcases H1.out.own with ⟨e, hz⟩ | ⟨g, cap, fr, e, _⟩
    · exact absurd (H1.out.nil (by rw [e])) (by rintro ⟨h, _⟩; cases h)
    · cases e; exact ⟨g, rfl⟩
  refine ⟨g, c', by simp, ?_, HK.out⟩
  exact H1.out.own.congr (fun i hi => by simp [after])

theorem clone_nil (w : World) : Calls Try.prog 27 #[.slice none 0 0] w fun e w' => e = .returned (.slice none 0 0) ∧ w = w' := by
  have q := fun (w : World) (a : Option Addr) (n c n' c' : Nat) => Lib.run_eql_slice_nil (P := Try.prog) w 22 30 a n c n' c' Try.underlying22
  go_enter Try.func27, Try.ntmps27
  go_wp2
  go_ret
  exact ⟨rfl, rfl⟩

/-- Clone of whatever came: nil stays nil. -/
theorem clone_any (A : Option Addr) (n c : Nat) (v : Nat → UInt8) (w : World) (hn : n ≤ 140737488351232) (hA : Sl w A n (byteV v)) (hA0 : A = none → n = 0 ∧ c = 0) :
    Calls Try.prog 27 #[.slice A n c] w fun e w' => ∃ x, e = .returned x ∧ Own w' w.heap.size 30 1 IsByte x n (byteV v) ∧ Kept S0 w w' := by
  cases A with
  | none =>
    obtain ⟨rfl, rfl⟩ := hA0 rfl
    exact (clone_nil w).mono fun e w' ⟨h1, h2⟩ => ⟨_, h1, Own.nil _ _ _ _ _ _, h2 ▸ Kept.refl _ _⟩
  | some p =>
    exact (clone_some p n c v w hn hA).mono fun e w' ⟨g, cap, h1, h2, h3⟩ => ⟨_, h1, h2, h3⟩

section
variable {w : World} {sb base n k : Nat} {v : Nat → UInt8} {lv lf : Value} {F : Nat → Value}

set_option maxHeartbeats 800000 in
theorem values_any (hm : StkAt w sb base n v lv k F lf) (hn : n ≤ 140737488351232) :
    Calls Try.prog 15 #[.pointer (some ⟨sb, 0, none⟩)] w fun e w' => ∃ x, e = .returned x ∧ Own w' w.heap.size 30 1 IsByte x n (byteV v) ∧ Kept S0 w w' := by
  have c0 := hm.c0
  have c1 := hm.c1
  obtain ⟨A, c, hlv, hnc, hcm, hsl⟩ := hm.vals.out
  rw [Nat.mul_one] at hsl
  have hA0 : A = none → n = 0 ∧ c = 0 := by
    rcases hm.vals with ⟨h, h0⟩ | ⟨g, cap, fr, h, _⟩
    · intro hp; rw [hlv, hp] at h; cases h; exact ⟨rfl, rfl⟩
    · intro hp; rw [hlv, hp] at h; cases h
  subst hlv
  have CL := Lib.hid (clone_any A n c v w hn hsl hA0)
  clear hm hsl hA0
  go_enter Try.func15, Try.ntmps15
  go_wp2_with fail
  refine (off_made _ _ c0).mono ?_
  rintro e w1 ⟨rfl, rfl⟩
  go_wp2_with fail
  refine CL.out.mono ?_
  rintro e w2 ⟨x, rfl, ho, hk⟩
  go_wp2_with fail
  go_ret
  exact ⟨x, rfl, ho, hk⟩

set_option maxHeartbeats 800000 in
theorem top_any (g q c : Nat) (w : World) (c2 : w.cell? ⟨sb, 2, none⟩ = some (.slice (some ⟨g, 0, none⟩) (q + 1) c)) (hq : q ≤ 140737488351232) :
    Calls Try.prog 28 #[.pointer (some ⟨sb, 0, none⟩)] w fun e w' => e = .returned (.pointer (some ⟨g, q * 5, none⟩)) ∧ ∃ m, w' = w.drewN m := by
  have u1 : IntKind.i64.wrap ((q : Int) + 1 - 1) = (q : Int) := by rw [IntWalk.i64_in _ (by omega)]; omega
  have u2 : (q : Int) < (q : Int) + 1 := by omega
  go_enter Try.func28, Try.ntmps28
  go_wp2_with fail
  go_quiet (fail)
  go_wp2_with fail
  go_ret
  exact ⟨rfl, _, rfl⟩

set_option maxHeartbeats 1600000 in
theorem take_floor (g q c : Nat) (hm : StkAt w sb base n v lv (q + 1) F (.slice (some ⟨g, 0, none⟩) (q + 1) c)) (hq : q ≤ 140737488351232) (hh : F (q * 5 + 3) = .int .i64 (n : Int)) (hd : F (q * 5 + 4) = .bool false) :
    Calls Try.prog 13 #[.pointer (some ⟨sb, 0, none⟩)] w fun e w' => e = .returned (.tuple #[.int .u8 0, .int .i64 5]) ∧ Kept S0 w w' := by
  have c0 := hm.c0
  have c1 := hm.c1
  have c2 := hm.c2
  obtain ⟨A, cv, hlv, hvc, _, _⟩ := hm.vals.out
  rw [hlv] at c1
  have hfr := hm.frs
  rcases hfr with ⟨h, _⟩ | ⟨g2, cap, fr, h, _, hc1, hc2, hrow, hF, _⟩
  · cases h
  have hgg : g = g2 ∧ c = cap := by cases h; exact ⟨rfl, rfl⟩
  obtain ⟨rfl, rfl⟩ := hgg
  have f3 : w.cell? ⟨g, q * 5 + 3, none⟩ = some (.int .i64 (n : Int)) := by rw [← hh, ← hF _ (by omega)]; exact hrow.cell (by omega)
  have f4 : w.cell? ⟨g, q * 5 + 4, none⟩ = some (.bool false) := by rw [← hd, ← hF _ (by omega)]; exact hrow.cell (by omega)
  have TP := Lib.hid (top_any (sb := sb) g q c w c2 hq)
  have b1 : ((q : Int) + 1 == 0) = false := beq_eq_false_iff_ne.2 (by omega)
  have b2 : ((n : Int) == (n : Int)) = true := beq_self_eq_true _
  clear hm hrow hF h hh hd
  go_enter Try.func13, Try.ntmps13
  go_wp2_with fail
  refine (off_made _ _ c0).mono ?_
  rintro e w1 ⟨rfl, rfl⟩
  go_wp2_with fail
  refine TP.out.mono ?_
  rintro e w1 ⟨rfl, m1, rfl⟩
  go_wp2_with fail
  go_ret2
  exact ⟨rfl, (Kept.refl S0 w).drewN _⟩

set_option maxHeartbeats 1600000 in
theorem take_dead (g q c : Nat) (hm : StkAt w sb base n v lv (q + 1) F (.slice (some ⟨g, 0, none⟩) (q + 1) c)) (hq : q ≤ 140737488351232) (hh : F (q * 5 + 3) = .int .i64 (n : Int)) (hd : F (q * 5 + 4) = .bool true) :
    Calls Try.prog 13 #[.pointer (some ⟨sb, 0, none⟩)] w fun e w' => e = .returned (.tuple #[.int .u8 0, .int .i64 0]) ∧ Kept S0 w w' := by
  have c0 := hm.c0
  have c1 := hm.c1
  have c2 := hm.c2
  obtain ⟨A, cv, hlv, hvc, _, _⟩ := hm.vals.out
  rw [hlv] at c1
  have hfr := hm.frs
  rcases hfr with ⟨h, _⟩ | ⟨g2, cap, fr, h, _, hc1, hc2, hrow, hF, _⟩
  · cases h
  have hgg : g = g2 ∧ c = cap := by cases h; exact ⟨rfl, rfl⟩
  obtain ⟨rfl, rfl⟩ := hgg
  have f3 : w.cell? ⟨g, q * 5 + 3, none⟩ = some (.int .i64 (n : Int)) := by rw [← hh, ← hF _ (by omega)]; exact hrow.cell (by omega)
  have f4 : w.cell? ⟨g, q * 5 + 4, none⟩ = some (.bool true) := by rw [← hd, ← hF _ (by omega)]; exact hrow.cell (by omega)
  have TP := Lib.hid (top_any (sb := sb) g q c w c2 hq)
  have b1 : ((q : Int) + 1 == 0) = false := beq_eq_false_iff_ne.2 (by omega)
  have b2 : ((n : Int) == (n : Int)) = true := beq_self_eq_true _
  clear hm hrow hF h hh hd
  go_enter Try.func13, Try.ntmps13
  go_wp2_with fail
  refine (off_made _ _ c0).mono ?_
  rintro e w1 ⟨rfl, rfl⟩
  go_wp2_with fail
  refine TP.out.mono ?_
  rintro e w1 ⟨rfl, m1, rfl⟩
  go_wp2_with fail
  go_ret2
  exact ⟨rfl, (Kept.refl S0 w).drewN _⟩

set_option maxHeartbeats 1600000 in
theorem take_value (g q c j ht : Nat) (hm : StkAt w sb base (j + 1) v lv (q + 1) F (.slice (some ⟨g, 0, none⟩) (q + 1) c)) (hn : j ≤ 140737488351232) (hq : q ≤ 140737488351232) (hh : F (q * 5 + 3) = .int .i64 (ht : Int)) (hlt : ht ≤ j) :
    Calls Try.prog 13 #[.pointer (some ⟨sb, 0, none⟩)] w fun e w' => e = .returned (.tuple #[.int .u8 ((v j).toNat : Int), .int .i64 0]) ∧ ∃ lj, StkAt w' sb base j v lj (q + 1) F (.slice (some ⟨g, 0, none⟩) (q + 1) c) ∧ Kept (S1 sb) w w' ∧ lj.ownBlock = lv.ownBlock ∧ (∀ gv cv, lv = .slice (some ⟨gv, 0, none⟩) (j + 1) cv → lj = .slice (some ⟨gv, 0, none⟩) j cv) := by
  have c0 := hm.c0
  have c1 := hm.c1
  have c2 := hm.c2
  obtain ⟨A, cv, hlv, hvc, _, _⟩ := hm.vals.out
  rw [hlv] at c1
  have hfr := hm.frs
  rcases hfr with ⟨h, _⟩ | ⟨g2, cap, fr, h, _, hc1, hc2, hrow, hF, _⟩
  · cases h
  have hgg : g = g2 ∧ c = cap := by cases h; exact ⟨rfl, rfl⟩
  obtain ⟨rfl, rfl⟩ := hgg
  have f3 : w.cell? ⟨g, q * 5 + 3, none⟩ = some (.int .i64 (ht : Int)) := by rw [← hh, ← hF _ (by omega)]; exact hrow.cell (by omega)
  have TP := Lib.hid (top_any (sb := sb) g q c w c2 hq)
  have b1 : ((q : Int) + 1 == 0) = false := beq_eq_false_iff_ne.2 (by omega)
  rcases hm.vals with ⟨_, h0⟩ | ⟨gv, cpv, frv, hv2, hbv, hnv, hcv, hrv, hFv, hQv⟩
  · omega
  rw [hlv] at hv2
  have hga : A = some ⟨gv, 0, none⟩ ∧ cv = cpv := by cases hv2; exact ⟨rfl, rfl⟩
  obtain ⟨rfl, rfl⟩ := hga
  have f0 : w.cell? ⟨gv, j, none⟩ = some (.int .u8 ((v j).toNat : Int)) := by
    have h1 := hrv.cell (i := j) (by omega)
    rw [hFv j (by omega)] at h1
    exact h1
  have b2 : (((j : Int) + 1) == (ht : Int)) = false := beq_eq_false_iff_ne.2 (by omega)
  have u1 : IntKind.i64.wrap ((j : Int) + 1 - 1) = (j : Int) := by rw [IntWalk.i64_in _ (by omega)]; omega
  have z1 := hm.obj.frozen 1
  obtain ⟨D, r1, d1⟩ := run_cut_h (P := Try.prog) 22 30 Try.underlying22 Try.sizeT (some ⟨gv, 0, none⟩) (j + 1) cv .i64 (j : Int) j rfl (by omega)
  have HD := Lib.hid d1
  have HM := Lib.hid hm
  have HRV := Lib.hid hrv
  have HFV := Lib.hid hFv
  have HQV := Lib.hid hQv
  have HLV := Lib.hid hlv
  clear hm hrow hF h hh hrv hFv hQv d1 hv2
  go_enter Try.func13, Try.ntmps13
  go_wp2_with fail
  refine (off_made _ _ c0).mono ?_
  rintro e w1 ⟨rfl, rfl⟩
  go_wp2_with fail
  refine TP.out.mono ?_
  rintro e w1 ⟨rfl, m1, rfl⟩
  go_wp2_with fail
  go_ret2
  have hD : D = some ⟨gv, 0, none⟩ := by rw [HD.out, if_neg (by omega)]; simp [Addr.add_lit]
  subst hD
  have hnv := HM.out.ne_v
  have hnf := HM.out.ne_f
  have hk : Kept (S1 sb) w ((w.drewN m1).setCell ⟨sb, 1, none⟩ (.slice (some ⟨gv, 0, none⟩) j cv)) := ((Kept.refl (S1 sb) w).drewN m1).setCell (p := ⟨sb, 1, none⟩) (.inl rfl) _
  have hob := ((Kept.refl S0 w).drewN m1).blk HM.out.obj (fun x => x)
  have hgs : gv ≠ sb := fun e => hnv (by rw [HLV.out]; exact congrArg some e)
  have hset : Blk ((w.drewN m1).setCell ⟨sb, 1, none⟩ (.slice (some ⟨gv, 0, none⟩) j cv)) sb 58 #[.bool true, .slice (some ⟨gv, 0, none⟩) j cv, .slice (some ⟨g, 0, none⟩) (q + 1) c] := hob.set_ 1 _
  refine ⟨rfl, .slice (some ⟨gv, 0, none⟩) j cv, ⟨hset, ?_, HM.out.frs.kept hk (fun g' hg e => hnf (by rw [hg]; exact congrArg some e)), HM.out.lo⟩, hk, by rw [HLV.out]; rfl, fun gv' cv' h => by rw [HLV.out] at h; cases h; rfl⟩
  exact .inr ⟨gv, cv, frv, rfl, hbv, by omega, hcv, hk.row HRV.out hgs, fun i hi => HFV.out i (by omega), HQV.out⟩
end
end Go.Proofs.Ytpbaojjcbpfdaaa
