/- The contract of a memory's Grow where it grows. No condition. -/
import Derived.Test.YtjkndigmoclnoaaMemF
namespace Go.Proofs.Ytjkndigmoclnoaa
open Go.RowKit

def moreF (f : Nat → UInt8) (N : Nat) : Nat → UInt8 := fun i => if i < N then f i else 0

theorem more_row {w : World} {b N M : Nat} {f : Nat → UInt8} (h : w.rowIs b 5 M (overlay 0 N (byteV f) (fun _ => .int .u8 0))) : w.rowIs b 5 M (fun i => .int .u8 ((moreF f N i).toNat : Int)) :=
  h.congr fun i _ => by
    unfold overlay moreF byteV
    by_cases e : i < N
    · rw [if_pos (by omega), if_pos e]; simp
    · rw [if_neg (by omega), if_neg e]; rfl

set_option maxHeartbeats 800000 in
theorem grow_yes (pb bb P k : Nat) (mn mx : Int) (bd : Bool) (f : Nat → UInt8) (w : World) (hm : MemAt w pb bb (P * 65536) mn mx bd f) (hP16 : P ≤ 16) (hk : k ≤ 4294967295) (h3 : 0 ≤ mx) (h4 : mx ≤ 4294967295) (hf : growB (P * 65536) k mx bd = true) :
    Calls Try.prog 13 #[.pointer (some ⟨pb, 0, none⟩), .int .u32 (k : Int)] w fun e w' => e = .returned (.tuple #[.int .u32 (P : Int), .int .i64 0]) ∧ ∃ b2, MemAt w' pb b2 ((P + k) * 65536) mn mx bd (moreF f (P * 65536)) ∧ w.heap.size ≤ b2 ∧ Kept (S1 pb) w w' := by
  have c0 := hm.c0
  have c2 := hm.c2
  have c3 := hm.c3
  have c4 := hm.c4
  have e1 : IntKind.u64.wrap (P : Int) = (P : Int) := IntWalk.u64_in _ (by omega)
  have e2 : IntKind.u64.wrap (k : Int) = (k : Int) := IntWalk.u64_in _ (by omega)
  have e3 : IntKind.u64.wrap ((P : Int) + (k : Int)) = (P : Int) + (k : Int) := IntWalk.u64_in _ (by omega)
  have e4 : IntKind.u64.wrap mx = mx := IntWalk.u64_in _ (by omega)
  unfold growB at hf
  rw [Nat.mul_div_cancel P (by omega : 0 < 65536)] at hf
  have pages := pages_made pb bb (P * 65536) w c0 c4 (by omega)
  rw [Nat.mul_div_cancel P (by omega : 0 < 65536)] at pages
  have HP := Lib.hid pages
  clear pages
  have hsum : P + k ≤ 16 := by
    by_cases h : P + k ≤ 16
    · exact h
    · rw [decide_eq_false h] at hf; simp at hf
  obtain ⟨M, hM⟩ : ∃ M : Nat, M = (P + k) * 65536 := ⟨_, rfl⟩
  obtain ⟨N, hN⟩ : ∃ N : Nat, N = P * 65536 := ⟨_, rfl⟩
  rw [← hN] at hm c4
  have g1' : decide ((16 : Int) < (P : Int) + (k : Int)) = false := decide_eq_false (by omega)
  have e5 : IntKind.i64.wrap ((P : Int) + (k : Int)) = (P : Int) + (k : Int) := IntWalk.i64_in _ (by omega)
  have e6 : IntKind.i64.wrap (((P : Int) + (k : Int)) * 65536) = (M : Int) := by rw [IntWalk.i64_in _ (by omega)]; omega
  have hmk := fun W => run_make_row' (P := Try.prog) 36 5 (.int .u8 0) 1 Try.underlying36 Try.info5 rfl .i64 .i64 M (by omega) (by omega) W
  have hpb := hm.obj.lt
  have hfz := hm.obj.frozen 4
  have hrow := (World.rowIs_made w (.int .u8 0) M 5)
  have hsl : Sl (w.alloc (.cells (madeCells #[.int .u8 0] M) 5)) (some ⟨bb, 0, none⟩) N (byteV f) := Sl.of_row (hm.row.alloc _) (Nat.le_refl _)
  have HM := Lib.hid hM
  have HNM := Lib.hid (show N ≤ M by omega)
  have HN := Lib.hid hN
  have hne : w.heap.size ≠ pb := by omega
  have hg2 : bd = false ∨ (bd = true ∧ decide (mx < (P : Int) + (k : Int)) = false) := by
    cases bd with
    | false => exact .inl rfl
    | true =>
      refine .inr ⟨rfl, decide_eq_false ?_⟩
      simp at hf
      omega
  clear hM hN hf hsum
  rcases hg2 with rfl | ⟨rfl, g2'⟩
  all_goals
    go_enter Try.func13, Try.ntmps13
    go_wp2_with (first | (go_at_call 29; refine (off_made _ _ (by assumption)).mono ?_; rintro e w' ⟨rfl, rfl⟩) | (go_at_call 12; refine HP.out.mono ?_; rintro e w' ⟨rfl, rfl⟩) | ((with_reducible refine gate (N := 46) rfl ?_); refine wpList_copy_rows rfl (.tmp 41) (.tmp 45) 36 36 rfl 5 Try.underlying36 Try.size5 _ _ M M N N rfl rfl w.heap.size 5 M 0 N (fun _ => .int .u8 0) (byteV f) (Nat.min_eq_left HNM.out) hrow (fun _ => rfl) hsl (.inr (by have := HNM.out; omega)) (fun _ _ => rfl) ?_))
    intro w' hcp
    have hB : Blk w' pb 69 _ := hcp.kept.blk (hm.obj.alloc _) (fun e => hne (Eq.symm e))
    have d4 := hB.cell 4
    have z4 := hB.frozen 4
    go_wp2
    go_ret2
    refine ⟨rfl, w.heap.size, ⟨?_, ?_⟩, Nat.le_refl _, ?_⟩
    · have := hB.set_ 4 (.slice (some ⟨w.heap.size, 0, none⟩) M M)
      rw [HM.out] at this ⊢
      exact this
    · rw [← HM.out, ← HN.out]
      exact (more_row hcp.row).setOther hne _
    · exact (((Kept.refl (S1 pb) w).alloc _).trans_ hcp.kept (fun i hi => .inr (by cases hi; exact Nat.le_refl _))).setCell (p := ⟨pb, 4, none⟩) (.inl rfl) _
end Go.Proofs.Ytjkndigmoclnoaa
