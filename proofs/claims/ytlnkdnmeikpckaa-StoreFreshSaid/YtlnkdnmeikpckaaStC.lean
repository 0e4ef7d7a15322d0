/- Contracts of a store's functions: at, AddFunc, Host, Func. No condition. -/
import Derived.Test.YtlnkdnmeikpckaaStB
namespace Go.Proofs.Ytlnkdnmeikpckaa
open Go.RowKit

section
variable {w : World} {sb n c k : Nat}

set_option maxHeartbeats 800000 in
theorem at_FUNC_in (a g : Nat) (hc : w.cell? ⟨sb, k, none⟩ = some (.slice (some ⟨g, 0, none⟩) n c)) (_hn : n ≤ 65536) (ha : a < n) :
    Calls Try.prog 47 #[.pointer (some ⟨sb, k, none⟩), .int .i64 (a : Int)] w fun e w' => e = .returned (.pointer (some ⟨g, a * 6, none⟩)) ∧ w = w' := by
  have h1 : ((a : Int) < 0) = False := eq_false (by omega)
  have h2 : decide ((n : Int) ≤ (a : Int)) = false := decide_eq_false (by omega)
  go_enter Try.func47, Try.ntmps47
  go_wp2_with fail
  go_ret
  exact ⟨by simp, rfl⟩

set_option maxHeartbeats 800000 in
theorem at_FUNC_out (a : Int) (A : Option Addr) (hc : w.cell? ⟨sb, k, none⟩ = some (.slice A n c)) (_hn : n ≤ 65536) (ha : a < 0 ∨ (n : Int) ≤ a) :
    Calls Try.prog 47 #[.pointer (some ⟨sb, k, none⟩), .int .i64 a] w fun e w' => e = .returned (.pointer none) ∧ w = w' := by
  by_cases h0 : a < 0
  · have h1 : decide (a < 0) = true := decide_eq_true h0
    clear ha
    go_enter Try.func47, Try.ntmps47
    go_wp2_with fail
    go_ret
    exact ⟨rfl, rfl⟩
  · have h1 : decide (a < 0) = false := decide_eq_false h0
    have h2 : decide ((n : Int) ≤ a) = true := decide_eq_true (by omega)
    clear ha h0
    go_enter Try.func47, Try.ntmps47
    go_wp2_with fail
    go_ret
    exact ⟨rfl, rfl⟩

set_option maxHeartbeats 800000 in
theorem at_TAB_in (a g : Nat) (hc : w.cell? ⟨sb, k, none⟩ = some (.slice (some ⟨g, 0, none⟩) n c)) (_hn : n ≤ 65536) (ha : a < n) :
    Calls Try.prog 63 #[.pointer (some ⟨sb, k, none⟩), .int .i64 (a : Int)] w fun e w' => e = .returned (.pointer (some ⟨g, a, none⟩)) ∧ w = w' := by
  have h1 : ((a : Int) < 0) = False := eq_false (by omega)
  have h2 : decide ((n : Int) ≤ (a : Int)) = false := decide_eq_false (by omega)
  go_enter Try.func63, Try.ntmps63
  go_wp2_with fail
  go_ret
  exact ⟨by simp, rfl⟩

set_option maxHeartbeats 800000 in
theorem at_TAB_out (a : Int) (A : Option Addr) (hc : w.cell? ⟨sb, k, none⟩ = some (.slice A n c)) (_hn : n ≤ 65536) (ha : a < 0 ∨ (n : Int) ≤ a) :
    Calls Try.prog 63 #[.pointer (some ⟨sb, k, none⟩), .int .i64 a] w fun e w' => e = .returned (.pointer none) ∧ w = w' := by
  by_cases h0 : a < 0
  · have h1 : decide (a < 0) = true := decide_eq_true h0
    clear ha
    go_enter Try.func63, Try.ntmps63
    go_wp2_with fail
    go_ret
    exact ⟨rfl, rfl⟩
  · have h1 : decide (a < 0) = false := decide_eq_false h0
    have h2 : decide ((n : Int) ≤ a) = true := decide_eq_true (by omega)
    clear ha h0
    go_enter Try.func63, Try.ntmps63
    go_wp2_with fail
    go_ret
    exact ⟨rfl, rfl⟩

set_option maxHeartbeats 800000 in
theorem at_MEM_in (a g : Nat) (hc : w.cell? ⟨sb, k, none⟩ = some (.slice (some ⟨g, 0, none⟩) n c)) (_hn : n ≤ 65536) (ha : a < n) :
    Calls Try.prog 64 #[.pointer (some ⟨sb, k, none⟩), .int .i64 (a : Int)] w fun e w' => e = .returned (.pointer (some ⟨g, a, none⟩)) ∧ w = w' := by
  have h1 : ((a : Int) < 0) = False := eq_false (by omega)
  have h2 : decide ((n : Int) ≤ (a : Int)) = false := decide_eq_false (by omega)
  go_enter Try.func64, Try.ntmps64
  go_wp2_with fail
  go_ret
  exact ⟨by simp, rfl⟩

set_option maxHeartbeats 800000 in
theorem at_MEM_out (a : Int) (A : Option Addr) (hc : w.cell? ⟨sb, k, none⟩ = some (.slice A n c)) (_hn : n ≤ 65536) (ha : a < 0 ∨ (n : Int) ≤ a) :
    Calls Try.prog 64 #[.pointer (some ⟨sb, k, none⟩), .int .i64 a] w fun e w' => e = .returned (.pointer none) ∧ w = w' := by
  by_cases h0 : a < 0
  · have h1 : decide (a < 0) = true := decide_eq_true h0
    clear ha
    go_enter Try.func64, Try.ntmps64
    go_wp2_with fail
    go_ret
    exact ⟨rfl, rfl⟩
  · have h1 : decide (a < 0) = false := decide_eq_false h0
    have h2 : decide ((n : Int) ≤ a) = true := decide_eq_true (by omega)
    clear ha h0
    go_enter Try.func64, Try.ntmps64
    go_wp2_with fail
    go_ret
    exact ⟨rfl, rfl⟩

set_option maxHeartbeats 800000 in
theorem at_GLOB_in (a g : Nat) (hc : w.cell? ⟨sb, k, none⟩ = some (.slice (some ⟨g, 0, none⟩) n c)) (_hn : n ≤ 65536) (ha : a < n) :
    Calls Try.prog 65 #[.pointer (some ⟨sb, k, none⟩), .int .i64 (a : Int)] w fun e w' => e = .returned (.pointer (some ⟨g, a * 5, none⟩)) ∧ w = w' := by
  have h1 : ((a : Int) < 0) = False := eq_false (by omega)
  have h2 : decide ((n : Int) ≤ (a : Int)) = false := decide_eq_false (by omega)
  go_enter Try.func65, Try.ntmps65
  go_wp2_with fail
  go_ret
  exact ⟨by simp, rfl⟩

set_option maxHeartbeats 800000 in
theorem at_GLOB_out (a : Int) (A : Option Addr) (hc : w.cell? ⟨sb, k, none⟩ = some (.slice A n c)) (_hn : n ≤ 65536) (ha : a < 0 ∨ (n : Int) ≤ a) :
    Calls Try.prog 65 #[.pointer (some ⟨sb, k, none⟩), .int .i64 a] w fun e w' => e = .returned (.pointer none) ∧ w = w' := by
  by_cases h0 : a < 0
  · have h1 : decide (a < 0) = true := decide_eq_true h0
    clear ha
    go_enter Try.func65, Try.ntmps65
    go_wp2_with fail
    go_ret
    exact ⟨rfl, rfl⟩
  · have h1 : decide (a < 0) = false := decide_eq_false h0
    have h2 : decide ((n : Int) ≤ a) = true := decide_eq_true (by omega)
    clear ha h0
    go_enter Try.func65, Try.ntmps65
    go_wp2_with fail
    go_ret
    exact ⟨rfl, rfl⟩

set_option maxHeartbeats 800000 in
theorem at_ELEM_in (a g : Nat) (hc : w.cell? ⟨sb, k, none⟩ = some (.slice (some ⟨g, 0, none⟩) n c)) (_hn : n ≤ 65536) (ha : a < n) :
    Calls Try.prog 49 #[.pointer (some ⟨sb, k, none⟩), .int .i64 (a : Int)] w fun e w' => e = .returned (.pointer (some ⟨g, a * 2, none⟩)) ∧ w = w' := by
  have h1 : ((a : Int) < 0) = False := eq_false (by omega)
  have h2 : decide ((n : Int) ≤ (a : Int)) = false := decide_eq_false (by omega)
  go_enter Try.func49, Try.ntmps49
  go_wp2_with fail
  go_ret
  exact ⟨by simp, rfl⟩

set_option maxHeartbeats 800000 in
theorem at_ELEM_out (a : Int) (A : Option Addr) (hc : w.cell? ⟨sb, k, none⟩ = some (.slice A n c)) (_hn : n ≤ 65536) (ha : a < 0 ∨ (n : Int) ≤ a) :
    Calls Try.prog 49 #[.pointer (some ⟨sb, k, none⟩), .int .i64 a] w fun e w' => e = .returned (.pointer none) ∧ w = w' := by
  by_cases h0 : a < 0
  · have h1 : decide (a < 0) = true := decide_eq_true h0
    clear ha
    go_enter Try.func49, Try.ntmps49
    go_wp2_with fail
    go_ret
    exact ⟨rfl, rfl⟩
  · have h1 : decide (a < 0) = false := decide_eq_false h0
    have h2 : decide ((n : Int) ≤ a) = true := decide_eq_true (by omega)
    clear ha h0
    go_enter Try.func49, Try.ntmps49
    go_wp2_with fail
    go_ret
    exact ⟨rfl, rfl⟩

set_option maxHeartbeats 800000 in
theorem at_DATA_in (a g : Nat) (hc : w.cell? ⟨sb, k, none⟩ = some (.slice (some ⟨g, 0, none⟩) n c)) (_hn : n ≤ 65536) (ha : a < n) :
    Calls Try.prog 50 #[.pointer (some ⟨sb, k, none⟩), .int .i64 (a : Int)] w fun e w' => e = .returned (.pointer (some ⟨g, a, none⟩)) ∧ w = w' := by
  have h1 : ((a : Int) < 0) = False := eq_false (by omega)
  have h2 : decide ((n : Int) ≤ (a : Int)) = false := decide_eq_false (by omega)
  go_enter Try.func50, Try.ntmps50
  go_wp2_with fail
  go_ret
  exact ⟨by simp, rfl⟩

set_option maxHeartbeats 800000 in
theorem at_DATA_out (a : Int) (A : Option Addr) (hc : w.cell? ⟨sb, k, none⟩ = some (.slice A n c)) (_hn : n ≤ 65536) (ha : a < 0 ∨ (n : Int) ≤ a) :
    Calls Try.prog 50 #[.pointer (some ⟨sb, k, none⟩), .int .i64 a] w fun e w' => e = .returned (.pointer none) ∧ w = w' := by
  by_cases h0 : a < 0
  · have h1 : decide (a < 0) = true := decide_eq_true h0
    clear ha
    go_enter Try.func50, Try.ntmps50
    go_wp2_with fail
    go_ret
    exact ⟨rfl, rfl⟩
  · have h1 : decide (a < 0) = false := decide_eq_false h0
    have h2 : decide ((n : Int) ≤ a) = true := decide_eq_true (by omega)
    clear ha h0
    go_enter Try.func50, Try.ntmps50
    go_wp2_with fail
    go_ret
    exact ⟨rfl, rfl⟩

set_option maxHeartbeats 800000 in
theorem at_INST_in (a g : Nat) (hc : w.cell? ⟨sb, k, none⟩ = some (.slice (some ⟨g, 0, none⟩) n c)) (_hn : n ≤ 65536) (ha : a < n) :
    Calls Try.prog 66 #[.pointer (some ⟨sb, k, none⟩), .int .i64 (a : Int)] w fun e w' => e = .returned (.pointer (some ⟨g, a, none⟩)) ∧ w = w' := by
  have h1 : ((a : Int) < 0) = False := eq_false (by omega)
  have h2 : decide ((n : Int) ≤ (a : Int)) = false := decide_eq_false (by omega)
  go_enter Try.func66, Try.ntmps66
  go_wp2_with fail
  go_ret
  exact ⟨by simp, rfl⟩

set_option maxHeartbeats 800000 in
theorem at_INST_out (a : Int) (A : Option Addr) (hc : w.cell? ⟨sb, k, none⟩ = some (.slice A n c)) (_hn : n ≤ 65536) (ha : a < 0 ∨ (n : Int) ≤ a) :
    Calls Try.prog 66 #[.pointer (some ⟨sb, k, none⟩), .int .i64 a] w fun e w' => e = .returned (.pointer none) ∧ w = w' := by
  by_cases h0 : a < 0
  · have h1 : decide (a < 0) = true := decide_eq_true h0
    clear ha
    go_enter Try.func66, Try.ntmps66
    go_wp2_with fail
    go_ret
    exact ⟨rfl, rfl⟩
  · have h1 : decide (a < 0) = false := decide_eq_false h0
    have h2 : decide ((n : Int) ≤ a) = true := decide_eq_true (by omega)
    clear ha h0
    go_enter Try.func66, Try.ntmps66
    go_wp2_with fail
    go_ret
    exact ⟨rfl, rfl⟩
end
end Go.Proofs.Ytlnkdnmeikpckaa
