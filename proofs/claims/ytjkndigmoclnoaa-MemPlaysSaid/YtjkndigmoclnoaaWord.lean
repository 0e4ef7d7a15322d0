/- Plain facts on the bytes of a word. No condition. -/
import Derived.WalkKit
namespace Go.Proofs.Ytjkndigmoclnoaa
open Go.RowKit

theorem pow256 (k : Nat) : 256 ^ k = 2 ^ (8 * k) := by rw [Nat.pow_mul]

theorem pow256_le {k : Nat} (hk : k < 8) : 256 ^ k ≤ 72057594037927936 := by
  have h := Nat.pow_le_pow_right (n := 256) (by omega) (show k ≤ 7 by omega)
  exact Nat.le_trans h (by decide)

theorem mul256_lt {c k : Nat} (hc : c < 256) (hk : k < 8) : c * 256 ^ k ≤ 18374686479671623680 := by
  have h := Nat.mul_le_mul (show c ≤ 255 by omega) (pow256_le hk)
  exact Nat.le_trans h (by decide)

theorem or_shl (x c k : Nat) (hx : x < 256 ^ k) (hc : c < 256) (hk : k < 8) :
    bits .or .u64 (x : Int) (IntKind.u64.wrap ((c : Int) * 2 ^ (8 * (k : Int)).toNat)) = ((x + c * 256 ^ k : Nat) : Int) := by
  have e : (8 * (k : Int)).toNat = 8 * k := by omega
  have hm := mul256_lt hc hk
  have hp := pow256_le hk
  have e2 : (c : Int) * 2 ^ (8 * (k : Int)).toNat = ((c * 256 ^ k : Nat) : Int) := by
    rw [e, pow256, Int.natCast_mul, Int.natCast_pow]; rfl
  rw [e2, IntWalk.u64_in _ (by omega), u64_or_nat _ _ (by omega) (by omega)]
  congr 1
  rw [pow256, Nat.or_comm, Nat.mul_comm c, ← Nat.two_pow_add_eq_or_of_lt (by rw [← pow256]; exact hx), Nat.add_comm]

/-- The low eight bytes of a word at a place, and the high ones. -/
def ldLo (f : Nat → UInt8) (a : Nat) : Nat → Nat
  | 0 => 0
  | k + 1 => if k < 8 then ldLo f a k + (f (a + k)).toNat * 256 ^ k else ldLo f a k
def ldHi (f : Nat → UInt8) (a : Nat) : Nat → Nat
  | 0 => 0
  | k + 1 => if k < 8 then ldHi f a k else ldHi f a k + (f (a + k)).toNat * 256 ^ (k - 8)

theorem ldLo_lt (f : Nat → UInt8) (a : Nat) : ∀ k, k ≤ 8 → ldLo f a k < 256 ^ k
  | 0, _ => by simp [ldLo]
  | k + 1, h => by
    have ih := ldLo_lt f a k (by omega)
    have hc := (f (a + k)).toNat_lt
    simp only [ldLo, if_pos (show k < 8 by omega)]
    have h1 := Nat.mul_le_mul_right (256 ^ k) (show (f (a + k)).toNat ≤ 255 by omega)
    rw [Nat.pow_succ]
    omega
theorem ldHi_low (f : Nat → UInt8) (a : Nat) : ∀ k, k ≤ 8 → ldHi f a k = 0
  | 0, _ => rfl
  | k + 1, h => by simp only [ldHi, if_pos (show k < 8 by omega)]; exact ldHi_low f a k (by omega)
theorem ldHi_lt (f : Nat → UInt8) (a : Nat) : ∀ k, 8 ≤ k → ldHi f a k < 256 ^ (k - 8)
  | 0, h => absurd h (by omega)
  | k + 1, h => by
    by_cases hk : k < 8
    · rw [ldHi_low f a (k + 1) (by omega), show k + 1 - 8 = 0 by omega]; decide
    · have ih := ldHi_lt f a k (by omega)
      have hc := (f (a + k)).toNat_lt
      simp only [ldHi, if_neg hk]
      have h1 := Nat.mul_le_mul_right (256 ^ (k - 8)) (show (f (a + k)).toNat ≤ 255 by omega)
      rw [show k + 1 - 8 = (k - 8) + 1 by omega, Nat.pow_succ]
      omega
theorem ldLo_step {f : Nat → UInt8} {a k c : Nat} (hc : c = (f (a + k)).toNat) (hk : k < 8) :
    bits .or .u64 (ldLo f a k : Int) (IntKind.u64.wrap ((c : Int) * 2 ^ (8 * (k : Int)).toNat)) = ((ldLo f a (k + 1) : Nat) : Int) := by
  subst hc
  rw [or_shl _ _ _ (ldLo_lt f a k (by omega)) (UInt8.toNat_lt _) hk]
  simp only [ldLo, if_pos hk]
theorem ldHi_step {f : Nat → UInt8} {a k c : Nat} (hc : c = (f (a + k)).toNat) (hk : 8 ≤ k) (h16 : k < 16) :
    bits .or .u64 (ldHi f a k : Int) (IntKind.u64.wrap ((c : Int) * 2 ^ (8 * ((k : Int) - 8)).toNat)) = ((ldHi f a (k + 1) : Nat) : Int) := by
  subst hc
  rw [show (k : Int) - 8 = ((k - 8 : Nat) : Int) by omega, or_shl _ _ _ (ldHi_lt f a k hk) (UInt8.toNat_lt _) (by omega)]
  simp only [ldHi, if_neg (show ¬ k < 8 by omega)]
theorem ldLo_same (f : Nat → UInt8) (a : Nat) {k : Nat} (hk : 8 ≤ k) : ldLo f a (k + 1) = ldLo f a k := by simp only [ldLo, if_neg (show ¬ k < 8 by omega)]
theorem ldHi_same (f : Nat → UInt8) (a : Nat) {k : Nat} (hk : k < 8) : ldHi f a (k + 1) = ldHi f a k := by simp only [ldHi, if_pos hk]
theorem ldLo_mod (f : Nat → UInt8) (a : Nat) : ∀ k, 0 < k → ldLo f a k % 256 = (f a).toNat
  | 0, h => absurd h (by omega)
  | 1, _ => by
    have := (f a).toNat_lt
    simp [ldLo]
  | k + 2, _ => by
    have ih := ldLo_mod f a (k + 1) (by omega)
    simp only [ldLo] at ih ⊢
    split
    · rw [Nat.pow_succ, Nat.mul_comm (256 ^ k), ← Nat.mul_assoc, Nat.mul_comm _ 256, Nat.mul_assoc, Nat.add_mul_mod_self_left]
      exact ih
    · exact ih
end Go.Proofs.Ytjkndigmoclnoaa
