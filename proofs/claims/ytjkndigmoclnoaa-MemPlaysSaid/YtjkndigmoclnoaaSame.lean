/- The contract of Same over bytes. No condition. -/
import Derived.Test.YtjkndigmoclnoaaClone
namespace Go.Proofs.Ytjkndigmoclnoaa
open Go.RowKit

/-- The same bytes? -/
def sameB (n m : Nat) (v u : Nat → UInt8) : Bool := decide (n = m ∧ ∀ i, i < n → v i = u i)
theorem sameB_true {n : Nat} {v u : Nat → UInt8} (h : ∀ i, i < n → v i = u i) : sameB n n v u = true := decide_eq_true ⟨rfl, h⟩
theorem sameB_false {n m i : Nat} {v u : Nat → UInt8} (hi : i < n) (h : v i ≠ u i) : sameB n m v u = false := decide_eq_false fun x => h (x.2 i hi)

set_option maxHeartbeats 800000 in
theorem same_quiet (A B : Option Addr) (n m c d : Nat) (v u : Nat → UInt8) (w : World) (hA : Sl w A n (byteV v)) (hB : Sl w B m (byteV u)) (hn : n ≤ 9223372036854775807) (hm : m ≤ 9223372036854775807) :
    Calls Try.prog 18 #[.slice A n c, .slice B m d] w fun e w' => e = .returned (.bool (sameB n m v u)) ∧ ∃ q, w' = w.drewN q := by
  by_cases hnm : n = m
  · subst hnm
    go_enter Try.func18, Try.ntmps18
    go_wp2
    go_loopw [5] (fun i wr => ∃ k : Nat, k ≤ n ∧ i = .int .i64 (k : Int) ∧ (∀ j, j < k → v j = u j) ∧ ∃ q, wr = w.drewN q) (fun i _ => n - (intOf i).toNat)
    case atStart => exact ⟨0, by omega, rfl, fun j hj => absurd hj (by omega), 0, rfl⟩
    case round =>
      obtain ⟨k, hk, rfl, heq, q, rfl⟩ := hrel
      have HE := Lib.hid heq
      clear heq
      by_cases hlt : k < n
      · obtain ⟨b1, o1, rfl, h1⟩ := hA (by omega)
        obtain ⟨b2, o2, rfl, h2⟩ := hB (by omega)
        have d1 := h1 k hlt
        have d2 := h2 k hlt
        simp only [byteV] at d1 d2
        clear hA hB h1 h2
        by_cases hvu : v k = u k
        · have hb : (((v k).toNat : Int) != ((u k).toNat : Int)) = false := by rw [hvu]; simp
          have HV := Lib.hid hvu
          clear hvu
          go_wp2
          go_quiet (fail)
          go_wp2
          go_roundw
          case rel => exact ⟨k + 1, by omega, by go_num, fun j hj => by
            by_cases e : j = k
            · subst e; exact HV.out
            · exact HE.out j (by omega), _, rfl⟩
          case measure => simp [intOf]; omega
        · have hb : (((v k).toNat : Int) != ((u k).toNat : Int)) = true := bne_iff_ne.2 fun e => hvu (UInt8.toNat_inj.1 (by omega))
          have HS := Lib.hid (sameB_false (m := n) hlt hvu)
          clear hvu
          go_wp2
          go_quiet (fail)
          go_wp2
          go_ret
          exact ⟨ret_bool (by rw [HS.out]), _, by rw [World.drewN_drewN]⟩
      · obtain rfl : k = n := by omega
        go_wp2
        go_ret
        exact ⟨ret_bool (by rw [sameB_true HE.out]), q, rfl⟩
  · have hb : ((n : Int) != (m : Int)) = true := bne_iff_ne.2 (by omega)
    have HS := Lib.hid (show sameB n m v u = false from decide_eq_false fun x => hnm x.1)
    go_enter Try.func18, Try.ntmps18
    go_wp2
    go_ret
    exact ⟨ret_bool (by rw [HS.out]), 0, rfl⟩

theorem same_any (A B : Option Addr) (n m c d : Nat) (v u : Nat → UInt8) (w : World) (hA : Sl w A n (byteV v)) (hB : Sl w B m (byteV u)) (hn : n ≤ 9223372036854775807) (hm : m ≤ 9223372036854775807) :
    Calls Try.prog 18 #[.slice A n c, .slice B m d] w fun e w' => e = .returned (.bool (sameB n m v u)) ∧ Kept S0 w w' :=
  (same_quiet A B n m c d v u w hA hB hn hm).mono fun _ _ ⟨he, q, hq⟩ => ⟨he, by rw [hq]; exact (Kept.refl S0 w).drewN q⟩
end Go.Proofs.Ytjkndigmoclnoaa
