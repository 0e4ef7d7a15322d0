/- Contracts of TakeOf where it takes, of TakeAll where it takes all. No condition. -/
import Derived.Test.YtpbaojjcbpfdaaaStkD
namespace Go.Proofs.Ytpbaojjcbpfdaaa
open Go.RowKit

section
variable {w : World} {sb base n k : Nat} {v : Nat → UInt8} {lv lf : Value} {F : Nat → Value}

set_option maxHeartbeats 1600000 in
theorem takeOf_dead (g q c : Nat) (t : UInt8) (hm : StkAt w sb base n v lv (q + 1) F (.slice (some ⟨g, 0, none⟩) (q + 1) c)) (hq : q ≤ 140737488351232) (hh : F (q * 5 + 3) = .int .i64 (n : Int)) (hd : F (q * 5 + 4) = .bool true) :
    Calls Try.prog 23 #[.pointer (some ⟨sb, 0, none⟩), .int .u8 (t.toNat : Int)] w fun e w' => e = .returned (.tuple #[.int .u8 0, .int .i64 0]) ∧ Kept S0 w w' := by
  have c0 := hm.c0
  have c1 := hm.c1
  obtain ⟨A, cv, hlv, hvc, _, _⟩ := hm.vals.out
  rw [hlv] at c1
  have TK := Lib.hid (take_dead g q c hm hq hh hd)
  clear hm
  go_enter Try.func23, Try.ntmps23
  go_wp2_with fail
  refine (off_made _ _ c0).mono ?_
  rintro e w1 ⟨rfl, rfl⟩
  go_wp2_with fail
  refine TK.out.mono ?_
  rintro e w1 ⟨rfl, hk⟩
  cases hb : ((0 : Int) == (t.toNat : Int))
  all_goals go_wp2_with fail
  all_goals go_ret2
  all_goals exact ⟨rfl, hk⟩

set_option maxHeartbeats 1600000 in
theorem takeOf_value (g q c j ht : Nat) (t : UInt8) (hm : StkAt w sb base (j + 1) v lv (q + 1) F (.slice (some ⟨g, 0, none⟩) (q + 1) c)) (hn : j ≤ 140737488351232) (hq : q ≤ 140737488351232) (hh : F (q * 5 + 3) = .int .i64 (ht : Int)) (hlt : ht ≤ j) (hc : v j = t ∨ v j = 0 ∨ t = 0) :
    Calls Try.prog 23 #[.pointer (some ⟨sb, 0, none⟩), .int .u8 (t.toNat : Int)] w fun e w' => e = .returned (.tuple #[.int .u8 ((v j).toNat : Int), .int .i64 0]) ∧ ∃ lj, StkAt w' sb base j v lj (q + 1) F (.slice (some ⟨g, 0, none⟩) (q + 1) c) ∧ Kept (S1 sb) w w' ∧ lj.ownBlock = lv.ownBlock ∧ (∀ gv cv, lv = .slice (some ⟨gv, 0, none⟩) (j + 1) cv → lj = .slice (some ⟨gv, 0, none⟩) j cv) := by
  have c0 := hm.c0
  have c1 := hm.c1
  obtain ⟨A, cv, hlv, hvc, _, _⟩ := hm.vals.out
  rw [hlv] at c1
  have TK := Lib.hid (take_value g q c j ht hm hn hq hh hlt)
  have hb : (((v j).toNat : Int) == (t.toNat : Int)) = true ∨ ((((v j).toNat : Int) == (t.toNat : Int)) = false ∧ (((v j).toNat : Int) == 0) = true) ∨ ((((v j).toNat : Int) == (t.toNat : Int)) = false ∧ (((v j).toNat : Int) == 0) = false ∧ ((t.toNat : Int) == 0) = true) := by
    by_cases h1 : v j = t
    · exact .inl (by rw [h1]; simp)
    · have e1 : (((v j).toNat : Int) == (t.toNat : Int)) = false := beq_eq_false_iff_ne.2 (fun e => h1 (UInt8.toNat_inj.1 (by omega)))
      by_cases h2 : v j = 0
      · exact .inr (.inl ⟨e1, by rw [h2]; rfl⟩)
      · have e2 : (((v j).toNat : Int) == 0) = false := beq_eq_false_iff_ne.2 (fun e => h2 (UInt8.toNat_inj.1 (by rw [UInt8.toNat_zero]; omega)))
        rcases hc with h | h | h
        · exact absurd h h1
        · exact absurd h h2
        · exact .inr (.inr ⟨e1, e2, by rw [h]; rfl⟩)
  clear hm hc
  go_enter Try.func23, Try.ntmps23
  go_wp2_with fail
  refine (off_made _ _ c0).mono ?_
  rintro e w1 ⟨rfl, rfl⟩
  go_wp2_with fail
  refine TK.out.mono ?_
  rintro e w1 ⟨rfl, hk⟩
  rcases hb with h | ⟨h, h2⟩ | ⟨h, h2, h3⟩
  all_goals go_wp2_with fail
  all_goals go_ret2
  all_goals exact ⟨rfl, hk⟩

/-- How many values are left when the last i of a list have been taken from the end; none where one is refused. -/
def pops (v : Nat → UInt8) (h : Nat) (dead : Bool) (u : Nat → UInt8) : Nat → Nat → Option Nat
  | 0, n => some n
  | i + 1, n => if n = h then (if dead = true then pops v h dead u i n else none) else if v (n - 1) = u i ∨ v (n - 1) = 0 ∨ u i = 0 then pops v h dead u i (n - 1) else none

set_option maxHeartbeats 1600000 in
theorem takeAll_ok (g q c m cu h nf : Nat) (A : Option Addr) (u : Nat → UInt8) (dead : Bool) (hm : StkAt w sb base n v lv (q + 1) F (.slice (some ⟨g, 0, none⟩) (q + 1) c)) (hA : Came (S1 sb) w A m cu u) (hn : n ≤ 140737488351232) (hq : q ≤ 140737488351232) (hh : F (q * 5 + 3) = .int .i64 (h : Int)) (hd : F (q * 5 + 4) = .bool dead) (hhn : h ≤ n) (hp : pops v h dead u m n = some nf) :
    Calls Try.prog 18 #[.pointer (some ⟨sb, 0, none⟩), .slice A m cu] w fun e w' => e = .returned (.int .i64 0) ∧ h ≤ nf ∧ nf ≤ n ∧ ∃ lj, StkAt w' sb base nf v lj (q + 1) F (.slice (some ⟨g, 0, none⟩) (q + 1) c) ∧ Kept (S1 sb) w w' ∧ lj.ownBlock = lv.ownBlock := by
  have c0 := hm.c0
  have c1 := hm.c1
  have c2 := hm.c2
  obtain ⟨Av, cv, hlv, _, _, _⟩ := hm.vals.out
  rw [hlv] at c1
  have b1 : ((q : Int) + 1 == 0) = false := beq_eq_false_iff_ne.2 (by omega)
  have hml := hA.le
  have u1 : IntKind.i64.wrap ((m : Int) - 1) = (m : Int) - 1 := IntWalk.i64_in _ (by omega)
  have HM := Lib.hid hm
  have HA := Lib.hid hA
  have HP := Lib.hid hp
  clear hm hp hA
  go_enter Try.func18, Try.ntmps18
  go_wp2_with fail
  refine (off_made _ _ c0).mono ?_
  rintro e w1 ⟨rfl, rfl⟩
  go_wp2_with fail
  go_loopw [6] (fun i wr => ∃ (r : Nat) (z : Int) (p : Nat) (lj : Value), i = .int .i64 z ∧ z = (r : Int) - 1 ∧ r ≤ m ∧ h ≤ p ∧ p ≤ n ∧ pops v h dead u r p = some nf ∧ StkAt wr sb base p v lj (q + 1) F (.slice (some ⟨g, 0, none⟩) (q + 1) c) ∧ Kept (S1 sb) w wr ∧ lj.ownBlock = lv.ownBlock) (fun i _ => (intOf i + 1).toNat)
  case atStart => exact ⟨m, _, n, lv, rfl, rfl, Nat.le_refl _, hhn, Nat.le_refl _, HP.out, HM.out, Kept.refl _ _, rfl⟩
  case round =>
    obtain ⟨r, z, p, lj, rfl, hz, hr, hhp, hpn, hpo, hmr, hk, hlj⟩ := hrel
    clear u1
    rcases Nat.eq_zero_or_pos r with hr0 | hr0
    · subst hr0
      obtain rfl : z = -1 := by omega
      obtain rfl : p = nf := by simpa [pops] using hpo
      have HJ := Lib.hid hmr
      have HK := Lib.hid hk
      clear hmr hk c0 c1 c2 hz
      go_wp2_with fail
      go_ret
      exact ⟨rfl, hhp, hpn, lj, HJ.out, HK.out, hlj⟩
    · obtain ⟨s, rfl⟩ : ∃ s, r = s + 1 := ⟨r - 1, by omega⟩
      obtain rfl : z = (s : Int) := by omega
      have hsm : s < m := by omega
      have hsi : (s : Int) < (m : Int) := by omega
      have hs0 : (0 : Int) ≤ (s : Int) := by omega
      have uz : IntKind.i64.wrap ((s : Int) - 1) = (s : Int) - 1 := IntWalk.i64_in _ (by omega)
      obtain ⟨b, o, hAe, hb, hc⟩ := HA.out.sl (by omega)
      subst hAe
      have hcs := hc s hsm
      have d3 : wr.cell? ⟨b, o + s, none⟩ = some (.int .u8 ((u s).toNat : Int)) := (hk.cell (p := ⟨b, o + s, none⟩) (World.block_lt_of_cell? _ _ hcs) hb).trans hcs
      have HJ := Lib.hid hmr
      have HK := Lib.hid hk
      have HPO := Lib.hid hpo
      clear hmr hk c0 c1 c2 hz hc hcs hpo
      go_wp2_with fail
      by_cases hph : p = h
      · have hpo := HPO.out
        rw [pops, if_pos hph] at hpo
        have hdd : dead = true := by
          by_cases hd2 : dead = true
          · exact hd2
          · rw [if_neg hd2] at hpo; cases hpo
        rw [if_pos hdd] at hpo
        have HPO := Lib.hid hpo
        clear hpo
        refine (takeOf_dead g q c (u s) HJ.out hq (by rw [hph]; exact hh) (by rw [hd, hdd])).mono ?_
        rintro e w2 ⟨rfl, hk2⟩
        have HK2 := Lib.hid hk2
        clear hk2
        go_wp2_with fail
        go_roundw
        case rel => exact ⟨s, _, p, lj, rfl, rfl, by omega, hhp, hpn, HPO.out, HJ.out.kept0 HK2.out, HK.out.then0 HK2.out, hlj⟩
        case measure => simp [intOf]
      · have hpo := HPO.out
        rw [pops, if_neg hph] at hpo
        have hcc : v (p - 1) = u s ∨ v (p - 1) = 0 ∨ u s = 0 := by
          by_cases hd2 : v (p - 1) = u s ∨ v (p - 1) = 0 ∨ u s = 0
          · exact hd2
          · rw [if_neg hd2] at hpo; cases hpo
        rw [if_pos hcc] at hpo
        obtain ⟨j, rfl⟩ : ∃ j, p = j + 1 := ⟨p - 1, by omega⟩
        have HPO := Lib.hid hpo
        clear hpo
        refine (takeOf_value g q c j h (u s) HJ.out (by omega) hq hh (by omega) hcc).mono ?_
        rintro e w2 ⟨rfl, lj2, hm2, hk2, hl2, _⟩
        have HK2 := Lib.hid hk2
        have HM2 := Lib.hid hm2
        clear hk2 hm2
        go_wp2_with fail
        go_roundw
        case rel => exact ⟨s, _, j, lj2, rfl, rfl, by omega, by omega, by omega, HPO.out, HM2.out, HK.out.trans HK2.out, hl2.trans hlj⟩
        case measure => simp [intOf]
end
end Go.Proofs.Ytpbaojjcbpfdaaa
