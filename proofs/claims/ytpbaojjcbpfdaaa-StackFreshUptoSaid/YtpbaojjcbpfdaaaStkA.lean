/- Contracts of a checker's smallest functions. No condition. -/
import Derived.Test.YtpbaojjcbpfdaaaProg
import Derived.Test.YtpbaojjcbpfdaaaBase4
namespace Go.Proofs.Ytpbaojjcbpfdaaa
open Go.RowKit

theorem Try.infoT : (Try.prog.info? 30).map (fun i => (i.zero, i.size, i.bytes)) = some (some (.int .u8 0), 1, 1) := by kernel_rfl
theorem Try.sizeT : (Try.prog.info? 30).map (·.size) = some 1 := by kernel_rfl
theorem Try.infoF : (Try.prog.info? 39).map (fun i => (i.size, i.bytes)) = some (5, 72) := by kernel_rfl

/-- The blocks that a checker may write. -/
def SK (sb : Nat) (lv lf : Value) : Nat → Prop := fun i => i = sb ∨ lv.ownBlock = some i ∨ lf.ownBlock = some i

def AnyV : Value → Prop := fun _ => True

/-- A checker: its values, and its frames' cells. -/
structure StkAt (w : World) (sb base : Nat) (n : Nat) (v : Nat → UInt8) (lv : Value) (k : Nat) (F : Nat → Value) (lf : Value) : Prop where
  obj : Blk w sb 58 #[.bool true, lv, lf]
  vals : Own w base 30 1 IsByte lv n (byteV v)
  frs : Own w base 39 5 AnyV lf k F
  lo : base ≤ sb

section
variable {w w' : World} {sb base n k : Nat} {v : Nat → UInt8} {lv lf : Value} {F : Nat → Value}
theorem StkAt.c0 (h : StkAt w sb base n v lv k F lf) : w.cell? ⟨sb, 0, none⟩ = some (.bool true) := h.obj.cell 0
theorem StkAt.c1 (h : StkAt w sb base n v lv k F lf) : w.cell? ⟨sb, 1, none⟩ = some lv := h.obj.cell 1
theorem StkAt.c2 (h : StkAt w sb base n v lv k F lf) : w.cell? ⟨sb, 2, none⟩ = some lf := h.obj.cell 2
theorem StkAt.kept {S : Nat → Prop} (h : StkAt w sb base n v lv k F lf) (hk : Kept S w w') (h1 : ¬ S sb) (h2 : ∀ g, lv.ownBlock = some g → ¬ S g) (h3 : ∀ g, lf.ownBlock = some g → ¬ S g) : StkAt w' sb base n v lv k F lf := ⟨hk.blk h.obj h1, h.vals.kept hk h2, h.frs.kept hk h3, h.lo⟩
theorem StkAt.kept0 (h : StkAt w sb base n v lv k F lf) (hk : Kept S0 w w') : StkAt w' sb base n v lv k F lf := h.kept hk (fun x => x) (fun _ _ x => x) (fun _ _ x => x)
theorem StkAt.ne_v (h : StkAt w sb base n v lv k F lf) : lv.ownBlock ≠ some sb := h.vals.ne_blk h.obj (by decide)
theorem StkAt.ne_f (h : StkAt w sb base n v lv k F lf) : lf.ownBlock ≠ some sb := h.frs.ne_blk h.obj (by decide)
end

set_option maxHeartbeats 400000 in
theorem off_made (sb : Nat) (w : World) (h0 : w.cell? ⟨sb, 0, none⟩ = some (.bool true)) :
    Calls Try.prog 26 #[.pointer (some ⟨sb, 0, none⟩)] w fun e w' => e = .returned (.bool false) ∧ w = w' := by
  go_enter Try.func26, Try.ntmps26
  go_wp2
  go_ret
  exact ⟨rfl, rfl⟩

set_option maxHeartbeats 400000 in
theorem off_zero (sb : Nat) (w : World) (h0 : w.cell? ⟨sb, 0, none⟩ = some (.bool false)) :
    Calls Try.prog 26 #[.pointer (some ⟨sb, 0, none⟩)] w fun e w' => e = .returned (.bool true) ∧ w = w' := by
  go_enter Try.func26, Try.ntmps26
  go_wp2
  go_ret
  exact ⟨rfl, rfl⟩

set_option maxHeartbeats 400000 in
theorem off_nil (w : World) :
    Calls Try.prog 26 #[.pointer none] w fun e w' => e = .returned (.bool true) ∧ w = w' := by
  go_enter Try.func26, Try.ntmps26
  go_wp2
  go_ret
  exact ⟨rfl, rfl⟩

set_option maxHeartbeats 400000 in
theorem newstk_any (w : World) : Calls Try.prog 10 #[] w fun e w' => ∃ sb, e = .returned (.pointer (some ⟨sb, 0, none⟩)) ∧ StkAt w' sb w.heap.size 0 (fun _ => 0) (.slice none 0 0) 0 (fun _ => undef) (.slice none 0 0) ∧ Kept S0 w w' := by
  go_enter Try.func10, Try.ntmps10
  go_wp2_with fail
  go_ret
  exact ⟨_, rfl, ⟨Blk.new w _ _, Own.nil _ _ _ _ _ _, Own.nil _ _ _ _ _ _, Nat.le_refl _⟩, (Kept.refl S0 w).alloc _⟩

/-- One list of bytes behind another. -/
def afterB (n : Nat) (f v : Nat → UInt8) : Nat → UInt8 := fun i => if i < n then f i else v (i - n)
theorem after_byteV (n : Nat) (f v : Nat → UInt8) : after n (byteV f) (byteV v) = byteV (afterB n f v) := by
  funext i; unfold after byteV afterB; split <;> rfl

set_option maxHeartbeats 1600000 in
theorem push_any (sb base n k m c : Nat) (v u : Nat → UInt8) (lv lf : Value) (F : Nat → Value) (A : Option Addr) (w : World) (hm : StkAt w sb base n v lv k F lf) (hA : Sl w A m (byteV u)) (hA0 : A = none → m = 0) (hn : n + m ≤ 140737488351232) (hb : base ≤ w.heap.size) :
    Calls Try.prog 11 #[.pointer (some ⟨sb, 0, none⟩), .slice A m c] w fun e w' => e = .returned (.int .i64 0) ∧ ∃ lj, StkAt w' sb base (n + m) (afterB n v u) lj k F lf ∧ Kept (SK sb lv (.slice none 0 0)) w w' ∧ (lj.ownBlock = lv.ownBlock ∨ lj.ownBlock = some w.heap.size) := by
  obtain ⟨A1, c1, rfl, hnc, hcm, hsl⟩ := hm.vals.out
  have d0 := hm.c0
  have d1 := hm.c1
  have z1 := hm.obj.frozen 1
  have HM := Lib.hid hm
  have hown := hm.vals
  have hobj := hm.obj
  have hne := hm.ne_v
  have hne2 := hm.ne_f
  clear hm hsl
  go_enter Try.func11, Try.ntmps11
  go_wp2_with fail
  refine (off_made _ _ d0).mono ?_
  rintro e w1 ⟨rfl, rfl⟩
  have hA1 : Sl w A (m * 1) (byteV u) := by rw [Nat.mul_one]; exact hA
  have hlt := hobj.lt
  go_wp2_with (at_builtin; refine wpList_append_all rfl (.tmp 11) (.tmp 12) 22 rfl base 30 (.int .u8 0) 1 1 Try.underlying22 Try.infoT rfl (by decide) IsByte (fun x hx => ⟨0, by simpa [Value.cells] using hx⟩) _ n (byteV v) rfl hown A m c (byteV u) rfl hA1 hA0 (fun j _ => byteV_is u j) (fun _ _ => rfl) (by unfold maxLen; omega) (by omega) hb ?_)
  intro v' w' ha
  obtain ⟨A2, c2, rfl, _, _, _⟩ := ha.own.out
  have hB2 := ha.grown.block sb hlt (fun e => hne e.symm)
  have hB3 : Blk w' sb 58 _ := hB2.trans hobj
  have y1 := hB3.frozen 1
  have x1 := hB3.cell 1
  have HA := Lib.hid ha
  clear ha hB2
  go_wp2_with fail
  go_ret
  have hap := HA.out
  have hkg : Kept (SK sb (.slice A1 n c1) (.slice none 0 0)) w w' := (Kept.refl _ w).grown hap.grown (fun g hg => .inl (.inr (.inl hg)))
  have hko : Kept (S1 sb) w' (w'.setCell ⟨sb, 1, none⟩ (.slice A2 (n + m) c2)) := (Kept.refl (S1 sb) w').setCell (p := ⟨sb, 1, none⟩) (.inl rfl) _
  have hne3 := hap.own.ne_blk hB3 (by decide)
  have hfr : Own w' base 39 5 AnyV lf k F := by
    rcases HM.out.frs with h | ⟨g, cap, fr, rfl, h2, h3, h4, h5, h6⟩
    · exact .inl h
    · refine .inr ⟨g, cap, fr, rfl, h2, h3, h4, h5.of_block (hap.grown.block g h5.lt (fun e => ?_)), h6⟩
      rcases HM.out.vals with ⟨h, _⟩ | ⟨g2, cap2, fr2, hv, _, _, _, h7, _⟩
      · rw [h] at e; simp [Value.ownBlock] at e
      · rw [hv] at e
        have e' : g = g2 := by simpa [Value.ownBlock] using e
        subst e'
        obtain ⟨cs1, q1, _, _⟩ := h5
        obtain ⟨cs2, q2, _, _⟩ := h7
        rw [q1] at q2
        simp at q2
  refine ⟨rfl, .slice A2 (n + m) c2, ⟨hB3.set_ 1 _, (hap.own.congr (fun i _ => by rw [after_byteV])).kept hko (fun g hg e => hne3 (by rw [hg]; exact congrArg some e)), hfr.kept hko (fun g hg e => hne2 (by rw [hg]; exact congrArg some e)), HM.out.lo⟩, hkg.setCell (p := ⟨sb, 1, none⟩) (.inl (.inl rfl)) _, hap.block⟩
end Go.Proofs.Ytpbaojjcbpfdaaa
