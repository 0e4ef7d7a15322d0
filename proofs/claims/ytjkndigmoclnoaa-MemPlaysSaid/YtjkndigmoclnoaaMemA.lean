/- Contracts of the smallest functions of a memory. No condition. -/
import Derived.Test.YtjkndigmoclnoaaProg
import Derived.Test.YtjkndigmoclnoaaBase
namespace Go.Proofs.Ytjkndigmoclnoaa
open Go.RowKit

/-- A memory's object: its five cells. -/
def memCells (mn mx : Int) (bd : Bool) (bb n : Nat) : Array Value := #[.bool true, .int .u32 mn, .int .u32 mx, .bool bd, .slice (some ⟨bb, 0, none⟩) n n]

structure MemAt (w : World) (pb bb n : Nat) (mn mx : Int) (bd : Bool) (f : Nat → UInt8) : Prop where
  obj : Blk w pb 69 (memCells mn mx bd bb n)
  row : w.rowIs bb 5 n (fun i => .int .u8 ((f i).toNat : Int))

section
variable {w : World} {pb bb n : Nat} {mn mx : Int} {bd : Bool} {f : Nat → UInt8}
theorem MemAt.ne (h : MemAt w pb bb n mn mx bd f) : bb ≠ pb := Row.ne h.row h.obj (by decide)
theorem MemAt.c0 (h : MemAt w pb bb n mn mx bd f) : w.cell? ⟨pb, 0, none⟩ = some (.bool true) := h.obj.cell 0
theorem MemAt.c1 (h : MemAt w pb bb n mn mx bd f) : w.cell? ⟨pb, 1, none⟩ = some (.int .u32 mn) := h.obj.cell 1
theorem MemAt.c2 (h : MemAt w pb bb n mn mx bd f) : w.cell? ⟨pb, 2, none⟩ = some (.int .u32 mx) := h.obj.cell 2
theorem MemAt.c3 (h : MemAt w pb bb n mn mx bd f) : w.cell? ⟨pb, 3, none⟩ = some (.bool bd) := h.obj.cell 3
theorem MemAt.c4 (h : MemAt w pb bb n mn mx bd f) : w.cell? ⟨pb, 4, none⟩ = some (.slice (some ⟨bb, 0, none⟩) n n) := h.obj.cell 4
end

set_option maxHeartbeats 400000 in
theorem off_made (pb : Nat) (w : World) (h0 : w.cell? ⟨pb, 0, none⟩ = some (.bool true)) :
    Calls Try.prog 29 #[.pointer (some ⟨pb, 0, none⟩)] w fun e w' => e = .returned (.bool false) ∧ w = w' := by
  go_enter Try.func29, Try.ntmps29
  go_wp2
  go_ret
  exact ⟨rfl, rfl⟩

set_option maxHeartbeats 400000 in
theorem off_zero (pb : Nat) (w : World) (h0 : w.cell? ⟨pb, 0, none⟩ = some (.bool false)) :
    Calls Try.prog 29 #[.pointer (some ⟨pb, 0, none⟩)] w fun e w' => e = .returned (.bool true) ∧ w = w' := by
  go_enter Try.func29, Try.ntmps29
  go_wp2
  go_ret
  exact ⟨rfl, rfl⟩

set_option maxHeartbeats 400000 in
theorem off_nil (w : World) :
    Calls Try.prog 29 #[.pointer none] w fun e w' => e = .returned (.bool true) ∧ w = w' := by
  go_enter Try.func29, Try.ntmps29
  go_wp2
  go_ret
  exact ⟨rfl, rfl⟩

set_option maxHeartbeats 400000 in
theorem pages_made (pb bb n : Nat) (w : World) (h0 : w.cell? ⟨pb, 0, none⟩ = some (.bool true)) (h4 : w.cell? ⟨pb, 4, none⟩ = some (.slice (some ⟨bb, 0, none⟩) n n)) (hn : n ≤ 1048576) :
    Calls Try.prog 12 #[.pointer (some ⟨pb, 0, none⟩)] w fun e w' => e = .returned (.int .u32 ((n / 65536 : Nat) : Int)) ∧ w = w' := by
  go_enter Try.func12, Try.ntmps12
  go_wp2_with (go_at_call 29; refine (off_made _ _ (by assumption)).mono ?_; rintro e w' ⟨rfl, rfl⟩)
  go_ret
  exact ⟨ret_int (by simp), rfl⟩

/-- Are n bytes there, from a place on? -/
def inB (at_ n all : Int) : Bool := decide (at_ + n ≤ all)

set_option maxHeartbeats 400000 in
theorem within_any (at_ n all : Int) (w : World) (h1 : 0 ≤ at_) (h2 : 0 ≤ n) (h3 : 0 ≤ all) (h4 : all ≤ 140737488351232) (h5 : at_ ≤ 18446744073709551615) (h6 : n ≤ 18446744073709551615) :
    Calls Try.prog 30 #[.int .u64 at_, .int .u64 n, .int .i64 all] w fun e w' => e = .returned (.bool (inB at_ n all)) ∧ w = w' := by
  have hw : IntKind.u64.wrap all = all := IntWalk.u64_in _ (by omega)
  by_cases hc : n ≤ all
  · have hw2 : IntKind.u64.wrap (all - n) = all - n := IntWalk.u64_in _ (by omega)
    have hb : inB at_ n all = decide (at_ ≤ all - n) := by unfold inB; exact decide_eq_decide.2 (by omega)
    have HB := Lib.hid hb; clear hb
    go_enter Try.func30, Try.ntmps30
    go_wp2
    go_ret
    exact ⟨ret_bool (by rw [HB.out]), rfl⟩
  · have hb : inB at_ n all = false := by unfold inB; exact decide_eq_false (by omega)
    have HB := Lib.hid hb; clear hb
    go_enter Try.func30, Try.ntmps30
    go_wp2
    go_ret
    exact ⟨ret_bool (by rw [HB.out]), rfl⟩

end Go.Proofs.Ytjkndigmoclnoaa
