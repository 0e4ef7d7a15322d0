/- Every call of no checker, or of a zero one. No condition. -/
import Derived.Test.YtpbaojjcbpfdaaaStkF
namespace Go.Proofs.Ytpbaojjcbpfdaaa
open Go.RowKit

/-- No checker: nil, or one that was not made. -/
def NoStk (w : World) (p : Value) : Prop := p = .pointer none ∨ ∃ sb, p = .pointer (some ⟨sb, 0, none⟩) ∧ w.cell? ⟨sb, 0, none⟩ = some (.bool false)

theorem off_no {w : World} {p : Value} (h : NoStk w p) : Calls Try.prog 26 #[p] w fun e w' => e = .returned (.bool true) ∧ w = w' := by
  rcases h with rfl | ⟨sb, rfl, h0⟩
  · exact off_nil w
  · exact off_zero sb w h0

theorem NoStk.kept0 {w w' : World} {p : Value} (h : NoStk w p) (hk : Kept S0 w w') : NoStk w' p := by
  rcases h with rfl | ⟨sb, rfl, h0⟩
  · exact .inl rfl
  · exact .inr ⟨sb, rfl, (hk.cell (p := ⟨sb, 0, none⟩) (World.block_lt_of_cell? _ _ h0) (fun x => x)).trans h0⟩

section
variable {w : World} {p : Value}

set_option maxHeartbeats 800000 in
theorem push_no (h : NoStk w p) (x : Value) : Calls Try.prog 11 #[p, x] w fun e w' => e = .returned (.int .i64 1) ∧ Kept S0 w w' := by
  go_enter Try.func11, Try.ntmps11
  go_wp2_with fail
  refine (off_no h).mono ?_
  rintro e w1 ⟨rfl, rfl⟩
  go_wp2_with fail
  go_ret
  exact ⟨rfl, Kept.refl _ _⟩

set_option maxHeartbeats 800000 in
theorem open_no (h : NoStk w p) (op : Int) (x y : Value) : Calls Try.prog 12 #[p, .int .u16 op, x, y] w fun e w' => e = .returned (.int .i64 1) ∧ Kept S0 w w' := by
  go_enter Try.func12, Try.ntmps12
  go_wp2_with fail
  refine (off_no h).mono ?_
  rintro e w1 ⟨rfl, rfl⟩
  go_wp2_with fail
  go_ret
  exact ⟨rfl, Kept.refl _ _⟩

set_option maxHeartbeats 800000 in
theorem take_no (h : NoStk w p) : Calls Try.prog 13 #[p] w fun e w' => e = .returned (.tuple #[.int .u8 0, .int .i64 1]) ∧ Kept S0 w w' := by
  go_enter Try.func13, Try.ntmps13
  go_wp2_with fail
  refine (off_no h).mono ?_
  rintro e w1 ⟨rfl, rfl⟩
  go_wp2_with fail
  go_ret2
  exact ⟨rfl, Kept.refl _ _⟩

set_option maxHeartbeats 800000 in
theorem takeOf_no (h : NoStk w p) (t : Int) : Calls Try.prog 23 #[p, .int .u8 t] w fun e w' => e = .returned (.tuple #[.int .u8 0, .int .i64 1]) ∧ Kept S0 w w' := by
  go_enter Try.func23, Try.ntmps23
  go_wp2_with fail
  refine (off_no h).mono ?_
  rintro e w1 ⟨rfl, rfl⟩
  go_wp2_with fail
  refine (take_no h).mono ?_
  rintro e w1 ⟨rfl, hk⟩
  go_wp2_with fail
  go_ret2
  exact ⟨rfl, hk⟩

set_option maxHeartbeats 800000 in
theorem takeAll_no (h : NoStk w p) (x : Value) : Calls Try.prog 18 #[p, x] w fun e w' => e = .returned (.int .i64 1) ∧ Kept S0 w w' := by
  go_enter Try.func18, Try.ntmps18
  go_wp2_with fail
  refine (off_no h).mono ?_
  rintro e w1 ⟨rfl, rfl⟩
  go_wp2_with fail
  go_ret
  exact ⟨rfl, Kept.refl _ _⟩

set_option maxHeartbeats 800000 in
theorem close_no (h : NoStk w p) : Calls Try.prog 19 #[p] w fun e w' => e = .returned (.tuple #[.agg #[.int .u16 0, .slice none 0 0, .slice none 0 0, .int .i64 0, .bool false], .int .i64 1]) ∧ Kept S0 w w' := by
  have hK := (Kept.refl S0 w).alloc (.cells #[.int .u16 0, .slice none 0 0, .slice none 0 0, .int .i64 0, .bool false] 39)
  go_enter Try.func19, Try.ntmps19
  go_wp2_with fail
  refine (off_no (h.kept0 hK)).mono ?_
  rintro e w1 ⟨rfl, rfl⟩
  go_wp2_with fail
  exact bodyPost_ret (v := .tuple #[.agg #[.int .u16 0, .slice none 0 0, .slice none 0 0, .int .i64 0, .bool false], .int .i64 1]) (by simp [results, Try.results19, go_sem]) rfl ⟨rfl, hK⟩

set_option maxHeartbeats 800000 in
theorem dead_no (h : NoStk w p) : Calls Try.prog 17 #[p] w fun e w' => e = .returned (.int .i64 1) ∧ Kept S0 w w' := by
  go_enter Try.func17, Try.ntmps17
  go_wp2_with fail
  refine (off_no h).mono ?_
  rintro e w1 ⟨rfl, rfl⟩
  go_wp2_with fail
  go_ret
  exact ⟨rfl, Kept.refl _ _⟩

set_option maxHeartbeats 800000 in
theorem label_no (h : NoStk w p) (n : Int) : Calls Try.prog 25 #[p, .int .u32 n] w fun e w' => e = .returned (.tuple #[.slice none 0 0, .int .i64 1]) ∧ Kept S0 w w' := by
  go_enter Try.func25, Try.ntmps25
  go_wp2_with fail
  refine (off_no h).mono ?_
  rintro e w1 ⟨rfl, rfl⟩
  go_wp2_with fail
  go_ret2
  exact ⟨rfl, Kept.refl _ _⟩

set_option maxHeartbeats 800000 in
theorem values_no (h : NoStk w p) : Calls Try.prog 15 #[p] w fun e w' => e = .returned (.slice none 0 0) ∧ Kept S0 w w' := by
  go_enter Try.func15, Try.ntmps15
  go_wp2_with fail
  refine (off_no h).mono ?_
  rintro e w1 ⟨rfl, rfl⟩
  go_wp2_with fail
  go_ret
  exact ⟨rfl, Kept.refl _ _⟩

set_option maxHeartbeats 800000 in
theorem frames_no (h : NoStk w p) : Calls Try.prog 22 #[p] w fun e w' => e = .returned (.slice none 0 0) ∧ Kept S0 w w' := by
  go_enter Try.func22, Try.ntmps22
  go_wp2_with fail
  refine (off_no h).mono ?_
  rintro e w1 ⟨rfl, rfl⟩
  go_wp2_with fail
  go_ret
  exact ⟨rfl, Kept.refl _ _⟩
end
end Go.Proofs.Ytpbaojjcbpfdaaa
