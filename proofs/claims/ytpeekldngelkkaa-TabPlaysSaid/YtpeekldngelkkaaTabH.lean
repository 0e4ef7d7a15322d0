/- The contract of Values over values that are the same. No condition. -/
import Derived.Test.YtpeekldngelkkaaTabA
namespace Go.Proofs.Ytpeekldngelkkaa
open Go.RowKit

set_option maxHeartbeats 1600000 in
theorem values_same (A B : Option Addr) (n c d : Nat) (v u : Nat → V3) (w : World) (hA : Sl w A (n * 3) (vcell v)) (hB : Sl w B (n * 3) (vcell u)) (hn : n ≤ 9223372036854775807) (he : ∀ i, i < n → v i = u i) :
    Calls Try.prog 12 #[.slice A n c, .slice B n d] w fun e w' => e = .returned (.bool true) ∧ Kept S0 w w' := by
  have HE := Lib.hid he
  clear he
  go_enter Try.func12, Try.ntmps12
  go_wp2
  go_loopw [5] (fun i wr => ∃ k : Nat, k ≤ n ∧ i = .int .i64 (k : Int) ∧ ∃ q, wr = w.drewN q) (fun i _ => n - (intOf i).toNat)
  case atStart => exact ⟨0, by omega, rfl, 0, rfl⟩
  case round =>
    obtain ⟨k, hk, rfl, q, rfl⟩ := hrel
    by_cases hlt : k < n
    · obtain ⟨b1, o1, rfl, h1⟩ := hA (by omega)
      obtain ⟨b2, o2, rfl, h2⟩ := hB (by omega)
      have d0 : w.cell? ⟨b1, o1 + k * 3, none⟩ = some (.int .u8 (v k).t) := by rw [← vcell_0]; exact h1 _ (by omega)
      have d1 : w.cell? ⟨b1, o1 + k * 3 + 1, none⟩ = some (.int .u64 (v k).lo) := by rw [← vcell_1, Nat.add_assoc]; exact h1 _ (by omega)
      have d2 : w.cell? ⟨b1, o1 + k * 3 + 2, none⟩ = some (.int .u64 (v k).hi) := by rw [← vcell_2, Nat.add_assoc]; exact h1 _ (by omega)
      have f0 : w.cell? ⟨b2, o2 + k * 3, none⟩ = some (.int .u8 (u k).t) := by rw [← vcell_0]; exact h2 _ (by omega)
      have f1 : w.cell? ⟨b2, o2 + k * 3 + 1, none⟩ = some (.int .u64 (u k).lo) := by rw [← vcell_1, Nat.add_assoc]; exact h2 _ (by omega)
      have f2 : w.cell? ⟨b2, o2 + k * 3 + 2, none⟩ = some (.int .u64 (u k).hi) := by rw [← vcell_2, Nat.add_assoc]; exact h2 _ (by omega)
      rw [HE.out k hlt] at d0 d1 d2
      have e1 : ∀ z : Int, (z == z) = true := fun z => beq_self_eq_true z
      clear hA hB h1 h2
      go_wp2
      go_quiet (fail)
      go_wp2
      go_roundw
      case rel => exact ⟨k + 1, by omega, by go_num, _, rfl⟩
      case measure => simp [intOf]; omega
    · obtain rfl : k = n := by omega
      go_wp2
      go_ret
      exact ⟨rfl, (Kept.refl S0 w).drewN q⟩
end Go.Proofs.Ytpeekldngelkkaa
