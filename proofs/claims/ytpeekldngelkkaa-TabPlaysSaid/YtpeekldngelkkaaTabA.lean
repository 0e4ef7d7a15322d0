/- Contracts of a table's smallest functions. No condition. -/
import Derived.Test.YtpeekldngelkkaaProg
import Derived.Test.YtpeekldngelkkaaBase4
namespace Go.Proofs.Ytpeekldngelkkaa
open Go.RowKit

theorem Try.infoV : (Try.prog.info? 43).map (fun i => (i.zero, i.size, i.bytes)) = some (some (.agg #[.int .u8 0, .int .u64 0, .int .u64 0]), 3, 24) := by kernel_rfl
theorem Try.sizeV : (Try.prog.info? 43).map (·.size) = some 3 := by kernel_rfl

def tabCells (el mn mx : Int) (bd : Bool) (lv : Value) : Array Value := #[.bool true, .int .u8 el, .int .u32 mn, .int .u32 mx, .bool bd, lv]
def AnyV : Value → Prop := fun _ => True

structure TabAt (w : World) (tb base n : Nat) (el mn mx : Int) (bd : Bool) (lv : Value) (f : Nat → V3) : Prop where
  obj : Blk w tb 67 (tabCells el mn mx bd lv)
  own : Own w base 43 3 AnyV lv n (vcell f)
  lo : base ≤ tb

section
variable {w w' : World} {tb base n : Nat} {el mn mx : Int} {bd : Bool} {lv : Value} {f : Nat → V3}
theorem TabAt.c0 (h : TabAt w tb base n el mn mx bd lv f) : w.cell? ⟨tb, 0, none⟩ = some (.bool true) := h.obj.cell 0
theorem TabAt.c1 (h : TabAt w tb base n el mn mx bd lv f) : w.cell? ⟨tb, 1, none⟩ = some (.int .u8 el) := h.obj.cell 1
theorem TabAt.c2 (h : TabAt w tb base n el mn mx bd lv f) : w.cell? ⟨tb, 2, none⟩ = some (.int .u32 mn) := h.obj.cell 2
theorem TabAt.c3 (h : TabAt w tb base n el mn mx bd lv f) : w.cell? ⟨tb, 3, none⟩ = some (.int .u32 mx) := h.obj.cell 3
theorem TabAt.c4 (h : TabAt w tb base n el mn mx bd lv f) : w.cell? ⟨tb, 4, none⟩ = some (.bool bd) := h.obj.cell 4
theorem TabAt.c5 (h : TabAt w tb base n el mn mx bd lv f) : w.cell? ⟨tb, 5, none⟩ = some lv := h.obj.cell 5
theorem TabAt.ne (h : TabAt w tb base n el mn mx bd lv f) : lv.ownBlock ≠ some tb := by
  intro e
  rcases h.own with ⟨rfl, _⟩ | ⟨g, cap, fr, rfl, _, _, _, hr, _⟩
  · simp [Value.ownBlock] at e
  · have : g = tb := by simpa [Value.ownBlock] using e
    exact Row.ne hr h.obj (by decide) this
theorem TabAt.kept {S : Nat → Prop} (h : TabAt w tb base n el mn mx bd lv f) (hk : Kept S w w') (h1 : ¬ S tb) (h2 : ∀ g, lv.ownBlock = some g → ¬ S g) : TabAt w' tb base n el mn mx bd lv f := ⟨hk.blk h.obj h1, h.own.kept hk h2, h.lo⟩
theorem TabAt.kept0 (h : TabAt w tb base n el mn mx bd lv f) (hk : Kept S0 w w') : TabAt w' tb base n el mn mx bd lv f := h.kept hk (fun x => x) (fun _ _ x => x)
theorem TabAt.congr {g : Nat → V3} (h : TabAt w tb base n el mn mx bd lv f) (e : ∀ i, i < n → f i = g i) : TabAt w tb base n el mn mx bd lv g := ⟨h.obj, h.own.congr (vcell_congr e), h.lo⟩
theorem TabAt.drew (h : TabAt w tb base n el mn mx bd lv f) : TabAt w.drew tb base n el mn mx bd lv f := h.kept0 (Kept.refl S0 w).drew
theorem TabAt.drewN (h : TabAt w tb base n el mn mx bd lv f) (q : Nat) : TabAt (w.drewN q) tb base n el mn mx bd lv f := h.kept0 ((Kept.refl S0 w).drewN q)
end

set_option maxHeartbeats 400000 in
theorem off_made (tb : Nat) (w : World) (h0 : w.cell? ⟨tb, 0, none⟩ = some (.bool true)) :
    Calls Try.prog 27 #[.pointer (some ⟨tb, 0, none⟩)] w fun e w' => e = .returned (.bool false) ∧ w = w' := by
  go_enter Try.func27, Try.ntmps27
  go_wp2
  go_ret
  exact ⟨rfl, rfl⟩

set_option maxHeartbeats 400000 in
theorem off_zero (tb : Nat) (w : World) (h0 : w.cell? ⟨tb, 0, none⟩ = some (.bool false)) :
    Calls Try.prog 27 #[.pointer (some ⟨tb, 0, none⟩)] w fun e w' => e = .returned (.bool true) ∧ w = w' := by
  go_enter Try.func27, Try.ntmps27
  go_wp2
  go_ret
  exact ⟨rfl, rfl⟩

set_option maxHeartbeats 400000 in
theorem off_nil (w : World) :
    Calls Try.prog 27 #[.pointer none] w fun e w' => e = .returned (.bool true) ∧ w = w' := by
  go_enter Try.func27, Try.ntmps27
  go_wp2
  go_ret
  exact ⟨rfl, rfl⟩

set_option maxHeartbeats 400000 in
theorem size_made (tb : Nat) (w : World) (A : Option Addr) (n c : Nat) (h0 : w.cell? ⟨tb, 0, none⟩ = some (.bool true)) (h5 : w.cell? ⟨tb, 5, none⟩ = some (.slice A n c)) (hn : n ≤ 16384) :
    Calls Try.prog 17 #[.pointer (some ⟨tb, 0, none⟩)] w fun e w' => e = .returned (.int .u32 (n : Int)) ∧ w = w' := by
  go_enter Try.func17, Try.ntmps17
  go_wp2_with (go_at_call 27; refine (off_made _ _ (by assumption)).mono ?_; rintro e w' ⟨rfl, rfl⟩)
  go_ret
  exact ⟨ret_int (by simp <;> omega), rfl⟩

/-- Are n there, from a place on? -/
def inB (at_ n all : Int) : Bool := decide (at_ + n ≤ all)
theorem inB_true {a n N : Nat} (h : a + n ≤ N) : inB a n N = true := by unfold inB; exact decide_eq_true (by omega)

set_option maxHeartbeats 400000 in
theorem within_any (at_ n all : Int) (w : World) (h1 : 0 ≤ at_) (h2 : 0 ≤ n) (h3 : 0 ≤ all) (h4 : all ≤ 9223372036854775807) (h5 : at_ ≤ 4294967295) (h6 : n ≤ 4294967295) :
    Calls Try.prog 29 #[.int .u32 at_, .int .u32 n, .int .i64 all] w fun e w' => e = .returned (.bool (inB at_ n all)) ∧ w = w' := by
  have hw : IntKind.u64.wrap all = all := IntWalk.u64_in _ (by omega)
  have hw1 : IntKind.u64.wrap at_ = at_ := IntWalk.u64_in _ (by omega)
  have hw2 : IntKind.u64.wrap n = n := IntWalk.u64_in _ (by omega)
  have hw3 : IntKind.u64.wrap (at_ + n) = at_ + n := IntWalk.u64_in _ (by omega)
  have HB := Lib.hid (show inB at_ n all = decide (at_ + n ≤ all) from rfl)
  go_enter Try.func29, Try.ntmps29
  go_wp2
  go_ret
  exact ⟨ret_bool (by rw [HB.out]), rfl⟩

/-- A reference that may be. -/
def refB (lo hi : Int) : Bool := (hi == 0) && decide (lo ≤ 4294967296)
/-- Does a value fit a reference's type? -/
def fitB (t lo hi el : Int) : Bool := (t == el) && refB lo hi

set_option maxHeartbeats 800000 in
theorem has_ref (t lo hi : Int) (w : World) (ht : t = 112 ∨ t = 111) : Calls Try.prog 44 #[.agg #[.int .u8 t, .int .u64 lo, .int .u64 hi]] w fun e w' => e = .returned (.bool (refB lo hi)) ∧ Kept S0 w w' := by
  by_cases hh : hi = 0
  · subst hh
    have HB := Lib.hid (show refB lo 0 = decide (lo ≤ 4294967296) by simp [refB])
    rcases ht with rfl | rfl
    all_goals
      go_enter Try.func44, Try.ntmps44
      go_wp2
      go_ret
      exact ⟨ret_bool (by rw [HB.out]), (by repeat (first | exact Kept.refl _ _ | assumption | refine Kept.drew ?_ | refine Kept.alloc ?_ _ | refine Kept.setCell ?_ (.inr (by first | exact Nat.le_refl _ | (simp; done) | omega | (simp; omega))) _))⟩
  · have h0 : (hi == 0) = false := beq_eq_false_iff_ne.2 hh
    have HB := Lib.hid (show refB lo hi = false by simp [refB, hh])
    clear hh
    rcases ht with rfl | rfl
    all_goals
      go_enter Try.func44, Try.ntmps44
      go_wp2
      go_ret
      exact ⟨ret_bool (by rw [HB.out]), (by repeat (first | exact Kept.refl _ _ | assumption | refine Kept.drew ?_ | refine Kept.alloc ?_ _ | refine Kept.setCell ?_ (.inr (by first | exact Nat.le_refl _ | (simp; done) | omega | (simp; omega))) _))⟩

set_option maxHeartbeats 800000 in
theorem fits_ref (t lo hi el : Int) (w : World) (he : el = 112 ∨ el = 111) : Calls Try.prog 31 #[.agg #[.int .u8 t, .int .u64 lo, .int .u64 hi], .int .u8 el] w fun e w' => e = .returned (.bool (fitB t lo hi el)) ∧ Kept S0 w w' := by
  by_cases ht : t = el
  · subst ht
    have h1 : (t == t) = true := beq_self_eq_true t
    have HB := Lib.hid (show fitB t lo hi t = refB lo hi by simp [fitB])
    have HE := Lib.hid he
    clear he
    go_enter Try.func31, Try.ntmps31
    go_wp2_with fail
    refine (has_ref t lo hi _ HE.out).mono ?_
    rintro e w1 ⟨rfl, hk⟩
    go_wp2_with fail
    go_ret
    exact ⟨ret_bool (by rw [HB.out]), ((Kept.refl S0 w).alloc _).then0 hk⟩
  · have h1 : (t == el) = false := beq_eq_false_iff_ne.2 ht
    have HB := Lib.hid (show fitB t lo hi el = false by simp [fitB, ht])
    clear he ht
    go_enter Try.func31, Try.ntmps31
    go_wp2_with fail
    go_ret
    exact ⟨ret_bool (by rw [HB.out]), (by repeat (first | exact Kept.refl _ _ | assumption | refine Kept.drew ?_ | refine Kept.alloc ?_ _ | refine Kept.setCell ?_ (.inr (by first | exact Nat.le_refl _ | (simp; done) | omega | (simp; omega))) _))⟩
end Go.Proofs.Ytpeekldngelkkaa
