/- Contracts of a memory's Sum and Type. No condition. -/
import Derived.Test.YtjkndigmoclnoaaMemC
namespace Go.Proofs.Ytjkndigmoclnoaa
open Go.RowKit

/-- The sum of the first k bytes, by the model's own operations. -/
def sumI (f : Nat → UInt8) : Nat → Int
  | 0 => 14695981039346656037
  | k + 1 => IntKind.u64.wrap (bits BinOp.xor IntKind.u64 (sumI f k) ((f k).toNat : Int) * 1099511628211)
theorem sumI_congr {f g : Nat → UInt8} : ∀ {n : Nat}, (∀ i, i < n → f i = g i) → sumI f n = sumI g n
  | 0, _ => rfl
  | n + 1, h => by simp only [sumI]; rw [sumI_congr (fun i hi => h i (by omega)), h n (by omega)]

section
variable {w : World} {pb bb N : Nat} {mn mx : Int} {bd : Bool} {f : Nat → UInt8}

set_option maxHeartbeats 800000 in
theorem sum_made (hm : MemAt w pb bb N mn mx bd f) (hN : N ≤ 1048576) :
    Calls Try.prog 21 #[.pointer (some ⟨pb, 0, none⟩)] w fun e w' => e = .returned (.int .u64 (sumI f N)) ∧ w = w' := by
  have c0 := hm.c0
  have c4 := hm.c4
  obtain ⟨z, hz⟩ : ∃ z : Int, sumI f 0 = z := ⟨_, rfl⟩
  go_enter Try.func21, Try.ntmps21
  go_wp2_with (first | (go_at_call 29; refine (off_made _ _ (by assumption)).mono ?_; rintro e w' ⟨rfl, rfl⟩))
  go_loop [3, 13] (fun s i => ∃ k : Nat, k ≤ N ∧ i = .int .i64 (k : Int) ∧ s = .int .u64 (sumI f k)) (fun _ i => N - (intOf i).toNat)
  case atStart => exact ⟨0, by omega, rfl, rfl⟩
  case round =>
    obtain ⟨k, hk, rfl, rfl⟩ := hrel
    by_cases hlt : k < N
    · have db := hm.row.cell hlt
      obtain ⟨c, hc⟩ : ∃ c : Nat, c = (f k).toNat := ⟨_, rfl⟩
      rw [← hc] at db
      have hc255 : c < 256 := by rw [hc]; exact UInt8.toNat_lt _
      have ec : IntKind.u64.wrap (c : Int) = (c : Int) := IntWalk.u64_in _ (by omega)
      have st := Lib.hid (show sumI f (k + 1) = IntKind.u64.wrap (bits BinOp.xor IntKind.u64 (sumI f k) (c : Int) * 1099511628211) by rw [hc]; rfl)
      clear hc hz
      go_wp2
      go_round
      case rel => exact ⟨k + 1, by omega, by go_num, by rw [st.out]⟩
      case measure => simp [intOf]; omega
    · obtain rfl : k = N := by omega
      go_wp2
      go_ret
      exact ⟨rfl, rfl⟩
end
end Go.Proofs.Ytjkndigmoclnoaa
