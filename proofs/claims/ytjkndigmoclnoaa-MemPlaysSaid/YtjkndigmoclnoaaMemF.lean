/- Contracts of types.May, of a memory's New and Grow. No condition. -/
import Derived.Test.YtjkndigmoclnoaaMemC
import Derived.Test.YtjkndigmoclnoaaMay
import Derived.StillTailTactics
namespace Go.Proofs.Ytjkndigmoclnoaa
open Go.RowKit

def zeroF : Nat → UInt8 := fun _ => 0

set_option maxHeartbeats 800000 in
theorem new_arg (mn mx : Int) (bd : Bool) (w : World) (h1 : 0 ≤ mn) (h2 : mn ≤ 4294967295) (h3 : 0 ≤ mx) (h4 : mx ≤ 4294967295) (hf : mayB mn mx bd 65536 = false) :
    Calls Try.prog 9 #[.agg #[.int .u32 mn, .int .u32 mx, .bool bd]] w fun e w' => e = .returned (.tuple #[.pointer none, .int .i64 2]) ∧ Kept S0 w w' := by
  have HF := Lib.hid hf; clear hf
  go_enter Try.func9, Try.ntmps9
  go_wp2_with (go_at_call 28; refine (may_any _ _ _ _ _ (by omega) (by omega) (by omega) (by omega) (by omega) (by omega)).mono ?_; rintro e w' ⟨rfl, hk⟩; rw [HF.out])
  go_ret2
  exact ⟨rfl, ((Kept.refl S0 w).alloc _).then0 hk⟩

set_option maxHeartbeats 800000 in
theorem new_limit (mn mx : Int) (bd : Bool) (w : World) (h1 : 16 < mn) (h2 : mn ≤ 4294967295) (h3 : 0 ≤ mx) (h4 : mx ≤ 4294967295) (hf : mayB mn mx bd 65536 = true) :
    Calls Try.prog 9 #[.agg #[.int .u32 mn, .int .u32 mx, .bool bd]] w fun e w' => e = .returned (.tuple #[.pointer none, .int .i64 3]) ∧ Kept S0 w w' := by
  have HF := Lib.hid hf; clear hf
  have hc : (w.alloc (.cells #[.int .u32 mn, .int .u32 mx, .bool bd] 24)).cell? ⟨w.heap.size, 0, none⟩ = some (.int .u32 mn) := (Blk.new w 24 _).cell 0
  go_enter Try.func9, Try.ntmps9
  go_wp2_with (go_at_call 28; refine (may_any _ _ _ _ _ (by omega) (by omega) (by omega) (by omega) (by omega) (by omega)).mono ?_; rintro e w' ⟨rfl, hk⟩; rw [HF.out]; have hc' := (hk.cell (p := ⟨w.heap.size, 0, none⟩) (by simp) (fun h => h)).trans hc; have HK := Lib.hid hk; clear hc hk)
  go_ret2
  exact ⟨rfl, ((Kept.refl S0 w).alloc _).then0 HK.out⟩

set_option maxHeartbeats 800000 in
theorem new_made (mn : Nat) (mx : Int) (bd : Bool) (w : World) (h1 : mn ≤ 16) (h3 : 0 ≤ mx) (h4 : mx ≤ 4294967295) (hf : mayB mn mx bd 65536 = true) :
    Calls Try.prog 9 #[.agg #[.int .u32 (mn : Int), .int .u32 mx, .bool bd]] w fun e w' => ∃ pb bb, e = .returned (.tuple #[.pointer (some ⟨pb, 0, none⟩), .int .i64 0]) ∧ MemAt w' pb bb (mn * 65536) mn mx bd zeroF ∧ w.heap.size ≤ pb ∧ w.heap.size ≤ bb ∧ Kept S0 w w' := by
  have HF := Lib.hid hf; clear hf
  obtain ⟨N, hN⟩ : ∃ N : Nat, N = mn * 65536 := ⟨_, rfl⟩
  have e1 : IntKind.i64.wrap (mn : Int) = (mn : Int) := IntWalk.i64_in _ (by omega)
  have e2 : IntKind.i64.wrap ((mn : Int) * 65536) = (N : Int) := by rw [IntWalk.i64_in _ (by omega)]; omega
  have hmk := fun W => run_make_row' (P := Try.prog) 36 5 (.int .u8 0) 1 Try.underlying36 Try.info5 rfl .i64 .i64 N (by omega) (by omega) W
  have HN := Lib.hid hN; clear hN
  have hB := Blk.new w 24 #[.int .u32 (mn : Int), .int .u32 mx, .bool bd]
  have hc0 : (w.alloc (.cells #[.int .u32 (mn : Int), .int .u32 mx, .bool bd] 24)).cell? ⟨w.heap.size, 0, none⟩ = some (.int .u32 mn) := hB.cell 0
  go_enter Try.func9, Try.ntmps9
  go_wp2_with (go_at_call 28; refine (may_any _ _ _ _ _ (by omega) (by omega) (by omega) (by omega) (by omega) (by omega)).mono ?_; rintro e w1 ⟨rfl, hk⟩; rw [HF.out]; have hB1 := hk.blk hB (fun h => h); have d0 := hB1.cell 0; have d1 := hB1.cell 1; have d2 := hB1.cell 2; have HK := Lib.hid hk; clear hc0 hk)
  have hlt : w.heap.size < w1.heap.size := hB1.lt
  clear hB hB1
  go_region
  go_wp2
  go_ret2
  have hk1 : Kept S0 w w1 := ((Kept.refl S0 w).alloc _).then0 HK.out
  obtain rfl := HN.out
  exact ⟨_, _, rfl, ⟨Blk.new1 w1 _ _ _, (World.rowIs_made w1 (.int .u8 0) _ 5).alloc _⟩, by omega, by omega, ((hk1.alloc _).alloc _).drew⟩

/-- A memory's blocks are its own. -/
theorem MemAt.drew {w : World} {pb bb n : Nat} {mn mx : Int} {bd : Bool} {f : Nat → UInt8} (h : MemAt w pb bb n mn mx bd f) : MemAt w.drew pb bb n mn mx bd f := ⟨h.obj, h.row⟩
theorem MemAt.kept {w w' : World} {S : Nat → Prop} {pb bb n : Nat} {mn mx : Int} {bd : Bool} {f : Nat → UInt8} (h : MemAt w pb bb n mn mx bd f) (hk : Kept S w w') (h1 : ¬ S pb) (h2 : ¬ S bb) : MemAt w' pb bb n mn mx bd f := ⟨hk.blk h.obj h1, hk.row h.row h2⟩
theorem MemAt.kept0 {w w' : World} {pb bb n : Nat} {mn mx : Int} {bd : Bool} {f : Nat → UInt8} (h : MemAt w pb bb n mn mx bd f) (hk : Kept S0 w w') : MemAt w' pb bb n mn mx bd f := h.kept hk (fun x => x) (fun x => x)
theorem MemAt.congr {w : World} {pb bb n : Nat} {mn mx : Int} {bd : Bool} {f g : Nat → UInt8} (h : MemAt w pb bb n mn mx bd f) (e : ∀ i, i < n → f i = g i) : MemAt w pb bb n mn mx bd g := ⟨h.obj, h.row.congr fun i hi => by rw [e i hi]⟩

/-- What Grow answers when it may not. -/
def growB (N k : Nat) (mx : Int) (bd : Bool) : Bool := decide (N / 65536 + k ≤ 16) && (!bd || decide (((N / 65536 + k : Nat) : Int) ≤ mx))

set_option maxHeartbeats 800000 in
theorem grow_no (pb bb N k : Nat) (mn mx : Int) (bd : Bool) (f : Nat → UInt8) (w : World) (hm : MemAt w pb bb N mn mx bd f) (hN : N ≤ 1048576) (hk : k ≤ 4294967295) (h3 : 0 ≤ mx) (h4 : mx ≤ 4294967295) (hf : growB N k mx bd = false) :
    Calls Try.prog 13 #[.pointer (some ⟨pb, 0, none⟩), .int .u32 (k : Int)] w fun e w' => e = .returned (.tuple #[.int .u32 4294967295, .int .i64 0]) ∧ w = w' := by
  have c0 := hm.c0
  have c2 := hm.c2
  have c3 := hm.c3
  have c4 := hm.c4
  obtain ⟨P, hP⟩ : ∃ P : Nat, N / 65536 = P := ⟨_, rfl⟩
  have hP16 : P ≤ 16 := by omega
  have e1 : IntKind.u64.wrap (P : Int) = (P : Int) := IntWalk.u64_in _ (by omega)
  have e2 : IntKind.u64.wrap (k : Int) = (k : Int) := IntWalk.u64_in _ (by omega)
  have e3 : IntKind.u64.wrap ((P : Int) + (k : Int)) = (P : Int) + (k : Int) := IntWalk.u64_in _ (by omega)
  have e4 : IntKind.u64.wrap mx = mx := IntWalk.u64_in _ (by omega)
  unfold growB at hf
  rw [hP] at hf
  have pages := pages_made pb bb N w c0 c4 hN
  rw [hP] at pages
  have HP := Lib.hid pages
  clear hP pages
  by_cases g1 : (16 : Int) < (P : Int) + (k : Int)
  · have g1' : decide ((16 : Int) < (P : Int) + (k : Int)) = true := decide_eq_true g1
    clear hf
    go_enter Try.func13, Try.ntmps13
    go_wp2_with (first | (go_at_call 29; refine (off_made _ _ (by assumption)).mono ?_; rintro e w' ⟨rfl, rfl⟩) | (go_at_call 12; refine HP.out.mono ?_; rintro e w' ⟨rfl, rfl⟩))
    go_ret2
    exact ⟨rfl, rfl⟩
  · have g1' : decide ((16 : Int) < (P : Int) + (k : Int)) = false := decide_eq_false g1
    have g2 : bd = true ∧ mx < (P : Int) + (k : Int) := by
      rw [decide_eq_true (by omega : P + k ≤ 16)] at hf
      cases bd with
      | false => simp at hf
      | true =>
        refine ⟨rfl, ?_⟩
        simp at hf
        omega
    obtain ⟨rfl, g2⟩ := g2
    have g2' : decide (mx < (P : Int) + (k : Int)) = true := decide_eq_true g2
    clear hf g1 g2
    go_enter Try.func13, Try.ntmps13
    go_wp2_with (first | (go_at_call 29; refine (off_made _ _ (by assumption)).mono ?_; rintro e w' ⟨rfl, rfl⟩) | (go_at_call 12; refine HP.out.mono ?_; rintro e w' ⟨rfl, rfl⟩))
    go_ret2
    exact ⟨rfl, rfl⟩
end Go.Proofs.Ytjkndigmoclnoaa
