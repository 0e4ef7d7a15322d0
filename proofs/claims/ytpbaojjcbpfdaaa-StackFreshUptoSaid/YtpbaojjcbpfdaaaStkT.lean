/- The document's checker without a frame: Take, TakeOf, TakeAll, Close, Dead, Label. No condition. -/
import Derived.Test.YtpbaojjcbpfdaaaStkS
namespace Go.Proofs.Ytpbaojjcbpfdaaa
open Go.RowKit

/-- The last stores of a call: its result's two cells. -/
theorem fin2 {w W : World} {b : Nat} {p q x y : Value} (hk : Kept S0 w W) (hb : Blk W b 45 #[p, q]) (hw : w.heap.size ≤ b) :
    Kept S0 w ((W.setCell ⟨b, 0, none⟩ x).setCell ⟨b, 1, none⟩ y) ∧ ((W.setCell ⟨b, 0, none⟩ x).setCell ⟨b, 1, none⟩ y).cell? ⟨b, 0, none⟩ = some x ∧ ((W.setCell ⟨b, 0, none⟩ x).setCell ⟨b, 1, none⟩ y).cell? ⟨b, 1, none⟩ = some y := by
  have h := (hb.set_ 0 x).set_ 1 y
  exact ⟨(hk.setCell (p := ⟨b, 0, none⟩) (.inr hw) _).setCell (p := ⟨b, 1, none⟩) (.inr hw) _, h.cell 0, h.cell 1⟩

section
variable {w : World} {V Fa : Option Addr} {n cv cf : Nat}

set_option maxHeartbeats 800000 in
theorem mtake_0 : Calls Try.prog 30 #[.agg #[.slice V n cv, .slice Fa 0 cf]] w fun e w' => e = .returned (.tuple #[.agg #[.slice V n cv, .slice Fa 0 cf], .int .u8 0, .int .i64 5]) ∧ Kept S0 w w' := by
  go_enter Try.func30, Try.ntmps30
  go_wp2_with fail
  exact bodyPost_ret (v := .tuple #[.agg #[.slice V n cv, .slice Fa 0 cf], .int .u8 0, .int .i64 5]) (by simp [results, Try.results30, go_sem]) rfl ⟨rfl, (by repeat (first | exact Kept.refl _ _ | assumption | refine Kept.drew ?_ | refine Kept.alloc ?_ _ | refine Kept.setCell ?_ (.inr (by first | exact Nat.le_refl _ | (simp; done) | omega | (simp; omega))) _))⟩

set_option maxHeartbeats 800000 in
theorem mtakeOf_0 (t : Int) : Calls Try.prog 31 #[.agg #[.slice V n cv, .slice Fa 0 cf], .int .u8 t] w fun e w' => e = .returned (.tuple #[.agg #[.slice V n cv, .slice Fa 0 cf], .int .u8 0, .int .i64 5]) ∧ Kept S0 w w' := by
  have hkd : Kept S0 w ((w.alloc (.cells #[.slice V n cv, .slice Fa 0 cf] 45)).alloc (.cells #[.slice none 0 0, .slice none 0 0] 45)) := ((Kept.refl S0 w).alloc _).alloc _
  have hbd : Blk ((w.alloc (.cells #[.slice V n cv, .slice Fa 0 cf] 45)).alloc (.cells #[.slice none 0 0, .slice none 0 0] 45)) w.heap.size 45 #[.slice V n cv, .slice Fa 0 cf] := (Blk.new w _ _).alloc _
  have hrd : Blk ((w.alloc (.cells #[.slice V n cv, .slice Fa 0 cf] 45)).alloc (.cells #[.slice none 0 0, .slice none 0 0] 45)) (w.heap.size + 1) 45 #[.slice none 0 0, .slice none 0 0] := Blk.new1 w _ _ _
  go_enter Try.func31, Try.ntmps31
  go_wp2_with fail
  generalize (w.alloc (.cells #[.slice V n cv, .slice Fa 0 cf] 45)).alloc (.cells #[.slice none 0 0, .slice none 0 0] 45) = wd at *
  refine mtake_0.mono ?_
  rintro e w2 ⟨rfl, hk2⟩
  have hk3 := hk2.alloc (.cells #[.slice V n cv, .slice Fa 0 cf] 45)
  have hb3 := hk3.blk hbd (fun x => x)
  have hr3 := hk3.blk hrd (fun x => x)
  have b0 := hb3.cell 0
  have b1 := hb3.cell 1
  have r0 := hr3.cell 0
  have r1 := hr3.cell 1
  have z0 := hr3.frozen 0
  have z1 := hr3.frozen 1
  have HK3 := Lib.hid (hkd.then0 hk3)
  have HR3 := Lib.hid hr3
  clear hbd hrd hkd hk2 hk3 hb3 hr3
  go_wp2_with fail
  obtain ⟨f1, f2, f3⟩ := fin2 (x := .slice V n cv) (y := .slice Fa 0 cf) HK3.out HR3.out (by omega)
  exact bodyPost_ret (v := .tuple #[.agg #[.slice V n cv, .slice Fa 0 cf], .int .u8 0, .int .i64 5]) (by simp [results, Try.results31, go_sem, f2, f3]) rfl ⟨rfl, f1⟩

set_option maxHeartbeats 800000 in
theorem mtakeAll_0 (l : Value) : Calls Try.prog 32 #[.agg #[.slice V n cv, .slice Fa 0 cf], l] w fun e w' => e = .returned (.tuple #[.agg #[.slice V n cv, .slice Fa 0 cf], .int .i64 5]) ∧ Kept S0 w w' := by
  go_enter Try.func32, Try.ntmps32
  go_wp2_with fail
  exact bodyPost_ret (v := .tuple #[.agg #[.slice V n cv, .slice Fa 0 cf], .int .i64 5]) (by simp [results, Try.results32, go_sem]) rfl ⟨rfl, (by repeat (first | exact Kept.refl _ _ | assumption | refine Kept.drew ?_ | refine Kept.alloc ?_ _ | refine Kept.setCell ?_ (.inr (by first | exact Nat.le_refl _ | (simp; done) | omega | (simp; omega))) _))⟩

set_option maxHeartbeats 800000 in
theorem mdead_0 : Calls Try.prog 36 #[.agg #[.slice V n cv, .slice Fa 0 cf]] w fun e w' => e = .returned (.tuple #[.agg #[.slice V n cv, .slice Fa 0 cf], .int .i64 5]) ∧ Kept S0 w w' := by
  go_enter Try.func36, Try.ntmps36
  go_wp2_with fail
  exact bodyPost_ret (v := .tuple #[.agg #[.slice V n cv, .slice Fa 0 cf], .int .i64 5]) (by simp [results, Try.results36, go_sem]) rfl ⟨rfl, (by repeat (first | exact Kept.refl _ _ | assumption | refine Kept.drew ?_ | refine Kept.alloc ?_ _ | refine Kept.setCell ?_ (.inr (by first | exact Nat.le_refl _ | (simp; done) | omega | (simp; omega))) _))⟩

set_option maxHeartbeats 800000 in
theorem mclose_0 : Calls Try.prog 34 #[.agg #[.slice V n cv, .slice Fa 0 cf]] w fun e w' => e = .returned (.tuple #[.agg #[.slice V n cv, .slice Fa 0 cf], .agg #[.int .u16 0, .slice none 0 0, .slice none 0 0, .int .i64 0, .bool false], .int .i64 5]) ∧ Kept S0 w w' := by
  go_enter Try.func34, Try.ntmps34
  go_wp2_with fail
  exact bodyPost_ret (v := .tuple #[.agg #[.slice V n cv, .slice Fa 0 cf], .agg #[.int .u16 0, .slice none 0 0, .slice none 0 0, .int .i64 0, .bool false], .int .i64 5]) (by simp [results, Try.results34, go_sem]) rfl ⟨rfl, (by repeat (first | exact Kept.refl _ _ | assumption | refine Kept.drew ?_ | refine Kept.alloc ?_ _ | refine Kept.setCell ?_ (.inr (by first | exact Nat.le_refl _ | (simp; done) | omega | (simp; omega))) _))⟩

set_option maxHeartbeats 800000 in
theorem mlabel_0 (i : Nat) (hi : i ≤ 4294967295) : Calls Try.prog 37 #[.agg #[.slice V n cv, .slice Fa 0 cf], .int .u32 (i : Int)] w fun e w' => e = .returned (.tuple #[.slice none 0 0, .int .i64 5]) ∧ Kept S0 w w' := by
  have u1 : IntKind.u64.wrap (i : Int) = (i : Int) := IntWalk.u64_in _ (by omega)
  have u2 : IntKind.u64.wrap 0 = 0 := by decide
  have u3 : (0 : Int) ≤ (i : Int) := by omega
  go_enter Try.func37, Try.ntmps37
  go_wp2_with fail
  go_ret2
  exact ⟨rfl, (by repeat (first | exact Kept.refl _ _ | assumption | refine Kept.drew ?_ | refine Kept.alloc ?_ _ | refine Kept.setCell ?_ (.inr (by first | exact Nat.le_refl _ | (simp; done) | omega | (simp; omega))) _))⟩
end
end Go.Proofs.Ytpbaojjcbpfdaaa
