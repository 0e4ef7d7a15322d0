/- The document's checker: TakeAll, Label, Dead in terms of the plain model. No condition. -/
import Derived.Test.YtpbaojjcbpfdaaaStkW
namespace Go.Proofs.Ytpbaojjcbpfdaaa
open Go.RowKit

section
variable {X : Nat → Prop} {w w' : World} {s : St} {mv : Value}

theorem mtakeAll_is (A : Option Addr) (m c : Nat) (u : Nat → UInt8) (h : ModIs X w mv s) (hw : s.Wf) (hX : ∀ i, X i → i < w.heap.size) (hA : Came S0 w A m c u) : Calls Try.prog 32 #[mv, .slice A m c] w fun e w' =>
    ∃ mv', e = .returned (.tuple #[mv', .int .i64 (s.allE u m)]) ∧ ModIs X w' mv' (s.withN (s.allN u m)) ∧ Kept S0 w w' := by
  by_cases hk : s.k = 0
  · obtain ⟨V, cv, Fa, cf, G, rfl, hat⟩ := h.ex
    rcases s with ⟨n, v, k, D⟩
    obtain rfl : k = 0 := hk
    exact (mtakeAll_0 _).mono fun e w' ⟨he, hk⟩ => ⟨_, he, h.kept0 hk, hk⟩
  · exact mtakeAll_some A m c u h hw hX hk hA

set_option maxHeartbeats 1600000 in
theorem mlabel_some {V : Option Addr} {n cv cf i p k b o : Nat} {G : Nat → Value} {op : Int} {A B : Option Addr} {an ac bn bc h : Nat} {dead : Bool} {u t : Nat → UInt8} (hf : FrAt G p op (.slice A an ac) (.slice B bn bc) h dead) (hc : ∀ i, i < k * 5 → w.cell? ⟨b, o + i, none⟩ = some (G i)) (hA : Came S0 w A an ac u) (hB : Came S0 w B bn bc t) (hi : i ≤ 4294967295) (hk : k = p + i + 1) (hk2 : k ≤ 1000000000) :
    Calls Try.prog 37 #[.agg #[.slice V n cv, .slice (some ⟨b, o, none⟩) k cf], .int .u32 (i : Int)] w fun e w' => ∃ C cc, e = .returned (.tuple #[.slice C (if op = 3 then an else bn) cc, .int .i64 0]) ∧ Came S0 w' C (if op = 3 then an else bn) cc (if op = 3 then u else t) ∧ Kept S0 w w' := by
  have hkd : Kept S0 w (w.alloc (.cells #[.slice V n cv, .slice (some ⟨b, o, none⟩) k cf] 45)) := (Kept.refl S0 w).alloc _
  have hcd : ∀ i, i < k * 5 → (w.alloc (.cells #[.slice V n cv, .slice (some ⟨b, o, none⟩) k cf] 45)).cell? ⟨b, o + i, none⟩ = some (G i) := fun i hi => (hkd.cell (p := ⟨b, o + i, none⟩) (World.block_lt_of_cell? _ _ (hc i hi)) (fun x => x)).trans (hc i hi)
  have f0 := hcd (p * 5) (by omega)
  have f1 := hcd (p * 5 + 1) (by omega)
  have f2 := hcd (p * 5 + 2) (by omega)
  have f3 := hcd (p * 5 + 3) (by omega)
  have f4 := hcd (p * 5 + 4) (by omega)
  rw [hf.f0] at f0
  rw [hf.f1, ← Nat.add_assoc] at f1
  rw [hf.f2, ← Nat.add_assoc] at f2
  rw [hf.f3, ← Nat.add_assoc] at f3
  rw [hf.f4, ← Nat.add_assoc] at f4
  have u1 : IntKind.u64.wrap (i : Int) = (i : Int) := IntWalk.u64_in _ (by omega)
  have u2 : IntKind.u64.wrap (k : Int) = (k : Int) := IntWalk.u64_in _ (by omega)
  have u3 : (i : Int) < (k : Int) := by omega
  have u4 : IntKind.i64.wrap ((k : Int) - 1) = (k : Int) - 1 := IntWalk.i64_in _ (by omega)
  have u5 : IntKind.i64.wrap (i : Int) = (i : Int) := IntWalk.i64_in _ (by omega)
  have u6 : IntKind.i64.wrap ((k : Int) - 1 - (i : Int)) = (p : Int) := by rw [IntWalk.i64_in _ (by omega)]; omega
  have u7 : (p : Int) < (k : Int) := by omega
  have HA := Lib.hid hA
  have HB := Lib.hid hB
  clear hf hcd hc hkd hA hB hk
  go_enter Try.func37, Try.ntmps37
  by_cases hop : op = 3
  · subst hop
    go_wp2_with fail
    go_ret2
    exact ⟨A, ac, rfl, HA.out.kept (((Kept.refl S0 w).alloc _).alloc _), ((Kept.refl S0 w).alloc _).alloc _⟩
  · have b1 : (op == 3) = false := beq_eq_false_iff_ne.2 hop
    go_wp2_with fail
    go_ret2
    exact ⟨B, bc, rfl, HB.out.kept (((Kept.refl S0 w).alloc _).alloc _), ((Kept.refl S0 w).alloc _).alloc _⟩

theorem mlabel_is (i : Nat) (hi : i ≤ 4294967295) (h : ModIs X w mv s) (hw : s.Wf) : Calls Try.prog 37 #[mv, .int .u32 (i : Int)] w fun e w' =>
    ∃ C cc, e = .returned (.tuple #[.slice C (s.labN i) cc, .int .i64 (s.labE i)]) ∧ Came S0 w' C (s.labN i) cc (s.labV i) ∧ Kept S0 w w' := by
  obtain ⟨V, cv, Fa, cf, G, rfl, hat⟩ := h.ex
  by_cases hk : i < s.k
  · obtain ⟨b, o, hFa, _, hc⟩ := hat.frs (by omega)
    subst hFa
    obtain ⟨A, c1, B, c2, hf, hxA, hyB⟩ := hat.fr (s.k - 1 - i) (by omega)
    refine (mlabel_some (i := i) hf hc (hxA.mono (fun _ x => x.elim)) (hyB.mono (fun _ x => x.elim)) hi (by omega) hw.k).mono fun e w' ⟨C, cc, he, hC, hkk⟩ => ⟨C, cc, ?_, ?_, hkk⟩
    · rw [he]; unfold St.labE St.labN; rw [if_pos hk, if_pos hk]
    · unfold St.labN St.labV; rw [if_pos hk]; exact hC
  · have hr : Calls Try.prog 37 #[.agg #[.slice V s.n cv, .slice Fa s.k cf], .int .u32 (i : Int)] w fun e w' => e = .returned (.tuple #[.slice none 0 0, .int .i64 5]) ∧ Kept S0 w w' := by
      have hkk := hw.k
      have u1 : IntKind.u64.wrap (i : Int) = (i : Int) := IntWalk.u64_in _ (by omega)
      have u2 : IntKind.u64.wrap (s.k : Int) = (s.k : Int) := IntWalk.u64_in _ (by omega)
      have u3 : (s.k : Int) ≤ (i : Int) := by omega
      clear h hat
      go_enter Try.func37, Try.ntmps37
      go_wp2_with fail
      go_ret2
      exact ⟨rfl, (by repeat (first | exact Kept.refl _ _ | assumption | refine Kept.drew ?_ | refine Kept.alloc ?_ _ | refine Kept.setCell ?_ (.inr (by first | exact Nat.le_refl _ | (simp; done) | omega | (simp; omega))) _))⟩
    refine hr.mono fun e w' ⟨he, hkk⟩ => ⟨none, 0, ?_, ?_, hkk⟩
    · rw [he]; unfold St.labE St.labN; rw [if_neg hk, if_neg hk]
    · unfold St.labN; rw [if_neg hk]; exact came_nil _
end
end Go.Proofs.Ytpbaojjcbpfdaaa
