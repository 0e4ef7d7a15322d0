/- The contract of a checker's Label. No condition. -/
import Derived.Test.YtpbaojjcbpfdaaaStkO
namespace Go.Proofs.Ytpbaojjcbpfdaaa
open Go.RowKit

section
variable {P : Program}
/-- x[p:p+1:p+1] of a slice at a block's head. -/
theorem run_cut_one (t e : TypeId) (s : Nat) (ht : P.underlying t = some (.slice e)) (hsz : (P.info? e).map (·.size) = some s) (g len cap p : Nat) (hp : p < cap) (w : World) :
    (Instr.slice t (.slice (some ⟨g, 0, none⟩) len cap) (some (.int .i64 (p : Int))) (some (.int .i64 ((p : Int) + 1))) (some (.int .i64 ((p : Int) + 1)))).run P w = .ok (.slice (some ⟨g, p * s, none⟩) 1 1) w := by
  have e1 : P.elem t = e := by simp [Program.elem, ht]
  rw [run_slice_lhm (P := P) w t (some ⟨g, 0, none⟩) len cap (by rw [e1]; exact ht) .i64 .i64 .i64 _ _ _ (by omega) (by omega) (by omega) (by omega), e1]
  cases hq : P.info? e with
  | none => simp [hq] at hsz
  | some i =>
    have hi : i.size = s := by simpa [hq] using hsz
    simp [sizeOf, typeInfo, hq, hi, sliced, Addr.add_lit]
end

section
variable {w w' : World} {sb base n k : Nat} {X Z : Nat → Prop} {s : St} {v : Nat → UInt8} {lv lf : Value} {F : Nat → Value}

set_option maxHeartbeats 800000 in
theorem label_none (i : Nat) (hi : i ≤ 4294967295) (hm : StkAt w sb base n v lv k F lf) (hk : k ≤ i) : Calls Try.prog 25 #[.pointer (some ⟨sb, 0, none⟩), .int .u32 (i : Int)] w fun e w' => e = .returned (.tuple #[.slice none 0 0, .int .i64 5]) ∧ Kept S0 w w' := by
  have c0 := hm.c0
  have c2 := hm.c2
  obtain ⟨A, c, hlf, _, _, _⟩ := hm.frs.out
  rw [hlf] at c2
  have u1 : IntKind.u64.wrap (i : Int) = (i : Int) := IntWalk.u64_in _ (by omega)
  have u2 : IntKind.u64.wrap (k : Int) = (k : Int) := IntWalk.u64_in _ (by omega)
  have u3 : (k : Int) ≤ (i : Int) := by omega
  clear hm
  go_enter Try.func25, Try.ntmps25
  go_wp2_with fail
  refine (off_made _ _ c0).mono ?_
  rintro e w1 ⟨rfl, rfl⟩
  go_wp2_with fail
  go_ret2
  exact ⟨rfl, Kept.refl _ _⟩

set_option maxHeartbeats 1600000 in
theorem label_some (i p g c : Nat) (op : Int) (A B : Option Addr) (an ac bn bc h : Nat) (dead : Bool) (u t : Nat → UInt8) (hi : i ≤ 4294967295) (hk : k = p + i + 1) (hk2 : k ≤ 1000000000) (hm : StkAt w sb base n v lv k F (.slice (some ⟨g, 0, none⟩) k c)) (hf : FrAt F p op (.slice A an ac) (.slice B bn bc) h dead) (hA : Came S0 w A an ac u) (hB : Came S0 w B bn bc t) :
    Calls Try.prog 25 #[.pointer (some ⟨sb, 0, none⟩), .int .u32 (i : Int)] w fun e w' => ∃ x, e = .returned (.tuple #[x, .int .i64 0]) ∧ Own w' w.heap.size 30 1 IsByte x (if op = 3 then an else bn) (byteV (if op = 3 then u else t)) ∧ Kept S0 w w' := by
  have c0 := hm.c0
  have c2 := hm.c2
  rcases hm.frs with ⟨h, _⟩ | ⟨g2, cap, fr, hfe, hbg, hc1, hc2, hrow, hF, _⟩
  · cases h
  have hgg : g = g2 ∧ c = cap := by cases hfe; exact ⟨rfl, rfl⟩
  obtain ⟨rfl, rfl⟩ := hgg
  have f0 : w.cell? ⟨g, p * 5, none⟩ = some (.int .u16 op) := by rw [← hf.f0, ← hF _ (by omega)]; exact hrow.cell (by omega)
  have f1 : w.cell? ⟨g, p * 5 + 1, none⟩ = some (.slice A an ac) := by rw [← hf.f1, ← hF _ (by omega)]; exact hrow.cell (by omega)
  have f2 : w.cell? ⟨g, p * 5 + 2, none⟩ = some (.slice B bn bc) := by rw [← hf.f2, ← hF _ (by omega)]; exact hrow.cell (by omega)
  have f3 : w.cell? ⟨g, p * 5 + 3, none⟩ = some (.int .i64 (h : Int)) := by rw [← hf.f3, ← hF _ (by omega)]; exact hrow.cell (by omega)
  have f4 : w.cell? ⟨g, p * 5 + 4, none⟩ = some (.bool dead) := by rw [← hf.f4, ← hF _ (by omega)]; exact hrow.cell (by omega)
  have u1 : IntKind.u64.wrap (i : Int) = (i : Int) := IntWalk.u64_in _ (by omega)
  have u2 : IntKind.u64.wrap (k : Int) = (k : Int) := IntWalk.u64_in _ (by omega)
  have u3 : (i : Int) < (k : Int) := by omega
  have u4 : IntKind.i64.wrap ((k : Int) - 1) = (k : Int) - 1 := IntWalk.i64_in _ (by omega)
  have u5 : IntKind.i64.wrap (i : Int) = (i : Int) := IntWalk.i64_in _ (by omega)
  have u6 : IntKind.i64.wrap ((k : Int) - 1 - (i : Int)) = (p : Int) := by rw [IntWalk.i64_in _ (by omega)]; omega
  have u7 : IntKind.i64.wrap ((p : Int) + 1) = (p : Int) + 1 := IntWalk.i64_in _ (by omega)
  have rr1 := run_cut_one (P := Try.prog) 43 39 5 Try.underlying43 Try.sizeFr g k c p (by omega) w
  have HA := Lib.hid hA
  have HB := Lib.hid hB
  have hka := (Kept.refl S0 w).alloc (.cells #[.int .u16 op, .slice A an ac, .slice B bn bc, .int .i64 (h : Int), .bool dead] 39)
  have CA := Lib.hid (hA.kept hka).clone
  have CB := Lib.hid (hB.kept hka).clone
  have HKA := Lib.hid hka
  clear hm hrow hF hfe hf hA hB hk hka
  go_enter Try.func25, Try.ntmps25
  go_wp2_with fail
  refine (off_made _ _ c0).mono ?_
  rintro e w1 ⟨rfl, rfl⟩
  by_cases hop : op = 3
  · subst hop
    go_wp2_with fail
    refine CA.out.mono ?_
    rintro e w2 ⟨x, rfl, ho, hk2⟩
    have HO := Lib.hid ho
    have HK2 := Lib.hid hk2
    clear ho hk2
    go_wp2_with fail
    go_ret2
    exact ⟨x, rfl, HO.out.mono HKA.out.size, HKA.out.then0 HK2.out⟩
  · have b1 : (op == 3) = false := beq_eq_false_iff_ne.2 hop
    go_wp2_with fail
    refine CB.out.mono ?_
    rintro e w2 ⟨x, rfl, ho, hk2⟩
    have HO := Lib.hid ho
    have HK2 := Lib.hid hk2
    clear ho hk2
    go_wp2_with fail
    go_ret2
    exact ⟨x, rfl, HO.out.mono HKA.out.size, HKA.out.then0 HK2.out⟩

theorem label_is (i : Nat) (hi : i ≤ 4294967295) (h : StkIs w sb base X Z s) (hw : s.Wf) : Calls Try.prog 25 #[.pointer (some ⟨sb, 0, none⟩), .int .u32 (i : Int)] w fun e w' =>
    ∃ x, e = .returned (.tuple #[x, .int .i64 (s.labE i)]) ∧ Own w' w.heap.size 30 1 IsByte x (s.labN i) (byteV (s.labV i)) ∧ Kept S0 w w' := by
  obtain ⟨lv, lf, F, hm, hX, hF⟩ := h.ex
  by_cases hk : i < s.k
  · obtain ⟨A, c1, B, c2, hf, hxA, hyB⟩ := hF (s.k - 1 - i) (by omega)
    obtain ⟨q, hq⟩ : ∃ q, s.k = q + 1 := ⟨s.k - 1, by omega⟩
    have hm2 := hm
    rw [hq] at hm2
    obtain ⟨g, c, rfl⟩ := hm2.lf_some
    rw [← hq] at hm
    refine (label_some i (s.k - 1 - i) g c (s.D (s.k - 1 - i)).op A B _ c1 _ c2 (s.D (s.k - 1 - i)).h (s.D (s.k - 1 - i)).dead (s.D (s.k - 1 - i)).u (s.D (s.k - 1 - i)).t hi (by omega) hw.k hm hf (hxA.mono (fun _ x => x.elim)) (hyB.mono (fun _ x => x.elim))).mono fun e w' ⟨x, he, ho, hkk⟩ => ⟨x, ?_, ?_, hkk⟩
    · rw [he]; unfold St.labE; rw [if_pos hk]
    · unfold St.labN St.labV; rw [if_pos hk]; exact ho
  · refine (label_none i hi hm (by omega)).mono fun e w' ⟨he, hkk⟩ => ⟨.slice none 0 0, ?_, ?_, hkk⟩
    · rw [he]; unfold St.labE; rw [if_neg hk]
    · unfold St.labN; rw [if_neg hk]; exact Own.nil _ _ _ _ _ _
end
end Go.Proofs.Ytpbaojjcbpfdaaa
