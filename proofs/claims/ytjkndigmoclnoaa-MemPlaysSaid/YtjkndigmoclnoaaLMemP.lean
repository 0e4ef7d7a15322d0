/- The walk of the statement MemPlays. No condition. -/
import Derived.Test.YtjkndigmoclnoaaMemW
import Derived.Test.YtjkndigmoclnoaaMemK
namespace Go.Proofs.Ytjkndigmoclnoaa
open Go.RowKit

set_option maxHeartbeats 3200000 in
set_option maxRecDepth 100000 in
theorem alike_any {w : World} {B pb bb rb : Nat} {mn mx : Int} {bd : Bool} {lr : Value} {P : Nat} {f : Nat → UInt8} (h : MPair w B pb bb rb mn lr mx bd P f) :
    Calls Try.prog 25 #[.pointer (some ⟨pb, 0, none⟩), .pointer (some ⟨rb, 0, none⟩)] w fun e w' => e = .returned (.bool true) ∧ Kept S0 w w' := by
  have hNB : P * 65536 ≤ 1048576 := by have := h.hP; omega
  have hP16 := h.hP
  have hm := h.mem
  have hr := h.ref
  clear h
  obtain ⟨N, hN⟩ : ∃ N : Nat, N = P * 65536 := ⟨_, rfl⟩
  rw [← hN] at hm hr hNB
  obtain ⟨A, c, hlr, _, _, hsl⟩ := hr.own.out
  rw [Nat.mul_one] at hsl
  have c3 := hr.c3
  rw [hlr] at c3
  have eq0 : (N : Int) / 65536 = (P : Int) := by omega
  have eqn : N / 65536 = P := by omega
  have e7 : IntKind.u32.wrap (P : Int) = (P : Int) := IntWalk.u32_in _ (by omega)
  have HMM := Lib.hid hm
  have HR := Lib.hid hr
  have HSL := Lib.hid hsl.slb
  have HLR := Lib.hid hlr
  have HN := Lib.hid hN
  have HEQ := Lib.hid eqn
  have e1 : ∀ z : Int, (z == z) = true := fun z => beq_self_eq_true z
  clear hm hr hsl hlr hN eqn
  go_enter Try.func25, Try.ntmps25
  go_wp2_with fail
  refine (read_in 0 N HMM.out hNB (by omega)).mono ?_
  rintro e w1 ⟨g, gc, rfl, ho1, hk1⟩
  have q0 := keep0 hk1 HR.out.c0
  have q1 := keep0 hk1 HR.out.c1
  have q2 := keep0 hk1 HR.out.c2
  have q3 := keep0 hk1 c3
  have hka : Kept S0 w1 (w1.alloc (.cells #[.int .u32 mn, .int .u32 mx, .bool bd] 24)) := (Kept.refl S0 w1).alloc _
  have q3a := keep0 hka q3
  have hkb : Kept S0 w1 (w1.alloc (.cells #[.int .u32 (P : Int), .int .u32 mx, .bool bd] 24)) := (Kept.refl S0 w1).alloc _
  have HKB := Lib.hid (hk1.then0 hkb)
  have HX := Lib.hid (Blk.new w1 24 #[.int .u32 (P : Int), .int .u32 mx, .bool bd])
  have HO1 := Lib.hid (ho1.kept hkb (fun _ _ x => x))
  have HQ3 := Lib.hid (keep0 hkb q3)
  clear ho1 hk1 c3 hka hkb
  go_wp2_with fail
  clear q0 q1 q2 q3 q3a
  generalize hxb : w1.heap.size = xb at *
  generalize w1.alloc (.cells #[.int .u32 (P : Int), .int .u32 mx, .bool bd] 24) = w2 at *
  have hdd := (Kept.refl S0 w2).drew
  have HK2 := Lib.hid HKB.out.drew
  have hS : w2.drew.cell? ⟨rb, 3, none⟩ = some (.slice A N c) ∧ w2.drew.cell? ⟨xb, 0, none⟩ = some (.int .u32 (P : Int)) ∧ w2.drew.cell? ⟨xb, 1, none⟩ = some (.int .u32 mx) ∧ w2.drew.cell? ⟨xb, 2, none⟩ = some (.bool bd) := ⟨HQ3.out, HX.out.cell 0, HX.out.cell 1, HX.out.cell 2⟩
  have HO2 := Lib.hid (HO1.out.kept hdd (fun _ _ x => x))
  refine wp_region_R (fun w' => w'.cell? ⟨rb, 3, none⟩ = some (.slice A N c) ∧ w'.cell? ⟨xb, 0, none⟩ = some (.int .u32 (P : Int)) ∧ w'.cell? ⟨xb, 1, none⟩ = some (.int .u32 mx) ∧ w'.cell? ⟨xb, 2, none⟩ = some (.bool bd)) [] (by kernel_rfl) ?_
  clear hdd HX HQ3 HO1 HKB
  generalize w2.drew = w3 at *
  refine wpAnyR_take 0 (v := ?_) rfl (by kernel_rfl) (by kernel_rfl) (by kernel_rfl) (by kernel_rfl) (fun _ _ _ h => h) hS ⟨by rfl, ?_⟩ ?_
  rotate_left; (intro w hSw; (try dsimp only at hSw); first | (go_simp; done) | (go_simp; with_reducible rfl))
  simp only [List.getElem_toArray, List.getElem_cons_zero, Act.put, List.setIfInBounds_toArray, List.set_cons_zero, List.set_cons_succ]
  refine wpAnyR_take 1 (v := ?_) rfl (by kernel_rfl) (by kernel_rfl) (by kernel_rfl) (by kernel_rfl) (fun _ _ _ h => h) hS ⟨by rfl, ?_⟩ ?_
  rotate_left; (intro w hSw; (try dsimp only at hSw); first | (go_simp; done) | (go_simp; with_reducible rfl))
  simp only [List.getElem_toArray, List.getElem_cons_zero, List.getElem_cons_succ, Act.put, List.setIfInBounds_toArray, List.set_cons_zero, List.set_cons_succ]
  refine wpAnyR_take 2 (v := ?_) rfl (by kernel_rfl) (by kernel_rfl) (by kernel_rfl) (by kernel_rfl) (fun _ _ _ h => h) hS ⟨by rfl, ?_⟩ ?_
  rotate_left; (intro w hSw; (try dsimp only at hSw); first | (go_simp; done) | (go_simp; with_reducible rfl))
  simp only [List.getElem_toArray, List.getElem_cons_zero, List.getElem_cons_succ, Act.put, List.setIfInBounds_toArray, List.set_cons_zero, List.set_cons_succ]
  refine wpAnyR_take 3 (v := ?_) rfl (by kernel_rfl) (by kernel_rfl) (by kernel_rfl) (by kernel_rfl) (fun _ _ _ h => h) hS ⟨by rfl, ?_⟩ ?_
  rotate_left; (intro w hSw; (try dsimp only at hSw); first | (go_simp; done) | (go_simp; with_reducible rfl))
  simp only [List.getElem_toArray, List.getElem_cons_zero, List.getElem_cons_succ, Act.put, List.setIfInBounds_toArray, List.set_cons_zero, List.set_cons_succ]
  refine wpAnyR_take 4 (v := ?_) rfl (by kernel_rfl) (by kernel_rfl) (by kernel_rfl) (by kernel_rfl) (fun _ _ _ h => h) hS ⟨by rfl, ?_⟩ ?_
  rotate_left; (intro w hSw; (try dsimp only at hSw); first | (go_simp; done) | (go_simp; with_reducible rfl))
  simp only [List.getElem_toArray, List.getElem_cons_zero, List.getElem_cons_succ, Act.put, List.setIfInBounds_toArray, List.set_cons_zero, List.set_cons_succ]
  refine wpAnyR_take 5 (v := ?_) rfl (by kernel_rfl) (by kernel_rfl) (by kernel_rfl) (by kernel_rfl) (fun _ _ _ h => h) hS ⟨by rfl, ?_⟩ ?_
  rotate_left; (intro w hSw; (try dsimp only at hSw); first | (go_simp; done) | (go_simp; with_reducible rfl))
  simp only [List.getElem_toArray, List.getElem_cons_zero, List.getElem_cons_succ, Act.put, List.setIfInBounds_toArray, List.set_cons_zero, List.set_cons_succ]
  refine wpAnyR_take 6 (v := ?_) rfl (by kernel_rfl) (by kernel_rfl) (by kernel_rfl) (by kernel_rfl) (fun _ _ _ h => h) hS ⟨by rfl, ?_⟩ ?_
  rotate_left; (intro w hSw; (try dsimp only at hSw); first | (go_simp; done) | (go_simp; with_reducible rfl))
  simp only [List.getElem_toArray, List.getElem_cons_zero, List.getElem_cons_succ, Act.put, List.setIfInBounds_toArray, List.set_cons_zero, List.set_cons_succ]
  refine wpAnyR_take 7 (v := ?_) rfl (by kernel_rfl) (by kernel_rfl) (by kernel_rfl) (by kernel_rfl) (fun _ _ _ h => h) hS ⟨by rfl, ?_⟩ ?_
  rotate_left; (intro w hSw; (try dsimp only at hSw); first | (go_simp; done) | (go_simp; with_reducible rfl))
  simp only [List.getElem_toArray, List.getElem_cons_zero, List.getElem_cons_succ, Act.put, List.setIfInBounds_toArray, List.set_cons_zero, List.set_cons_succ]
  refine wpAnyR_one 8 rfl (by kernel_rfl) (fun K hK8 => ?_)
  go_simp
  go_at_call 18
  have hslA : Sl w3 (some ⟨g, 0, none⟩) N (byteV (fun i => f (0 + i))) := by
    obtain ⟨_, _, e, _, _, hs⟩ := HO2.out.out
    cases e
    rw [Nat.mul_one] at hs
    exact hs
  have hslB : Sl w3 A N (byteV f) := (HSL.out.kept HK2.out (Nat.le_refl _) (fun _ e => e.elim)).sl
  refine (same_any (some ⟨g, 0, none⟩) A N N gc c (fun i => f (0 + i)) f _ hslA hslB (by omega) (by omega)).mono ?_
  rintro e w4 ⟨rfl, hk4⟩
  rw [show sameB N N (fun i => f (0 + i)) f = true from sameB_true (fun i _ => by rw [Nat.zero_add])]
  have hS4 : w4.cell? ⟨rb, 3, none⟩ = some (.slice A N c) ∧ w4.cell? ⟨xb, 0, none⟩ = some (.int .u32 (P : Int)) ∧ w4.cell? ⟨xb, 1, none⟩ = some (.int .u32 mx) ∧ w4.cell? ⟨xb, 2, none⟩ = some (.bool bd) := ⟨keep0 hk4 hS.1, keep0 hk4 hS.2.1, keep0 hk4 hS.2.2.1, keep0 hk4 hS.2.2.2⟩
  have HK4 := Lib.hid (HK2.out.then0 hk4)
  refine hK8.out _ _ (fun _ => hS4) ?_
  clear hK8 K hS hslA hslB hk4 HO2 HK2
  refine wpAnyR_take 9 (v := ?_) rfl (by kernel_rfl) (by kernel_rfl) (by kernel_rfl) (by kernel_rfl) (fun _ _ _ h => h) hS4 ⟨by rfl, ?_⟩ ?_
  rotate_left; (intro w hSw; (try dsimp only at hSw); first | (go_simp; done) | (go_simp; with_reducible rfl))
  simp only [List.getElem_toArray, List.getElem_cons_zero, List.getElem_cons_succ, Act.put, List.setIfInBounds_toArray, List.set_cons_zero, List.set_cons_succ]
  refine wpAnyR_take 10 (v := ?_) rfl (by kernel_rfl) (by kernel_rfl) (by kernel_rfl) (by kernel_rfl) (fun _ _ _ h => h) hS4 ⟨by rfl, ?_⟩ ?_
  rotate_left; (intro w hSw; (try dsimp only at hSw); first | (go_simp; done) | (go_simp; with_reducible rfl))
  simp only [List.getElem_toArray, List.getElem_cons_zero, List.getElem_cons_succ, Act.put, List.setIfInBounds_toArray, List.set_cons_zero, List.set_cons_succ]
  refine wpAnyR_take 11 (v := ?_) rfl (by kernel_rfl) (by kernel_rfl) (by kernel_rfl) (by kernel_rfl) (fun _ _ _ h => h) hS4 ⟨by rfl, ?_⟩ ?_
  rotate_left; (intro w hSw; (try dsimp only at hSw); first | (go_simp; done) | (go_simp; with_reducible rfl))
  simp only [List.getElem_toArray, List.getElem_cons_zero, List.getElem_cons_succ, Act.put, List.setIfInBounds_toArray, List.set_cons_zero, List.set_cons_succ]
  refine wpAnyR_take 13 (v := ?_) rfl (by kernel_rfl) (by kernel_rfl) (by kernel_rfl) (by kernel_rfl) (fun _ _ _ h => h) hS4 ⟨by rfl, ?_⟩ ?_
  rotate_left; (intro w hSw; (try dsimp only at hSw); first | (go_simp; done) | (go_simp; with_reducible rfl))
  simp only [List.getElem_toArray, List.getElem_cons_zero, List.getElem_cons_succ, Act.put, List.setIfInBounds_toArray, List.set_cons_zero, List.set_cons_succ]
  refine wpAnyR_take 14 (v := ?_) rfl (by kernel_rfl) (by kernel_rfl) (by kernel_rfl) (by kernel_rfl) (fun _ _ _ h => h) hS4 ⟨by rfl, ?_⟩ ?_
  rotate_left; (intro w hSw; (try dsimp only at hSw); first | (go_simp; done) | (go_simp; with_reducible rfl))
  simp only [List.getElem_toArray, List.getElem_cons_zero, List.getElem_cons_succ, Act.put, List.setIfInBounds_toArray, List.set_cons_zero, List.set_cons_succ]
  refine wpAnyR_one 12 rfl (by kernel_rfl) (fun K hK12 => ?_)
  go_simp
  go_at_call 12
  have hM4 := HMM.out.kept0 HK4.out
  refine (pages_made pb bb N _ hM4.c0 hM4.c4 hNB).mono ?_
  rintro e w5 ⟨rfl, rfl⟩
  rw [HEQ.out]
  refine hK12.out _ _ (fun _ => hS4) ?_
  clear hK12 K
  refine wpAnyR_take 15 (v := ?_) rfl (by kernel_rfl) (by kernel_rfl) (by kernel_rfl) (by kernel_rfl) (fun _ _ _ h => h) hS4 ⟨by rfl, ?_⟩ ?_
  rotate_left; (intro w hSw; (try dsimp only at hSw); first | (go_simp; done) | (go_simp; with_reducible rfl))
  simp only [List.getElem_toArray, List.getElem_cons_zero, List.getElem_cons_succ, Act.put, List.setIfInBounds_toArray, List.set_cons_zero, List.set_cons_succ]
  refine wpAnyR_take 16 (v := ?_) rfl (by kernel_rfl) (by kernel_rfl) (by kernel_rfl) (by kernel_rfl) (fun _ _ _ h => h) hS4 ⟨by rfl, ?_⟩ ?_
  rotate_left; (intro w hSw; (try dsimp only at hSw); first | (go_simp; done) | (go_simp; with_reducible rfl))
  simp only [List.getElem_toArray, List.getElem_cons_zero, List.getElem_cons_succ, Act.put, List.setIfInBounds_toArray, List.set_cons_zero, List.set_cons_succ]
  refine wpAnyR_take 17 (v := ?_) rfl (by kernel_rfl) (by kernel_rfl) (by kernel_rfl) (by kernel_rfl) (fun _ _ _ h => h) hS4 ⟨by rfl, ?_⟩ ?_
  rotate_left; (intro w hSw; (try dsimp only at hSw); first | (go_simp; done) | (go_simp; with_reducible rfl))
  simp only [List.getElem_toArray, List.getElem_cons_zero, List.getElem_cons_succ, Act.put, List.setIfInBounds_toArray, List.set_cons_zero, List.set_cons_succ]
  refine wpAnyR_take 18 (v := ?_) rfl (by kernel_rfl) (by kernel_rfl) (by kernel_rfl) (by kernel_rfl) (fun _ _ _ h => h) hS4 ⟨by rfl, ?_⟩ ?_
  rotate_left; (intro w hSw; (try dsimp only at hSw); first | (go_simp; done) | (go_simp; with_reducible rfl))
  simp only [List.getElem_toArray, List.getElem_cons_zero, List.getElem_cons_succ, Act.put, List.setIfInBounds_toArray, List.set_cons_zero, List.set_cons_succ]
  refine wpAnyR_take 20 (v := ?_) rfl (by kernel_rfl) (by kernel_rfl) (by kernel_rfl) (by kernel_rfl) (fun _ _ _ h => h) hS4 ⟨by rfl, ?_⟩ ?_
  rotate_left; (intro w hSw; (try dsimp only at hSw); first | (go_simp; done) | (go_simp; with_reducible rfl))
  simp only [List.getElem_toArray, List.getElem_cons_zero, List.getElem_cons_succ, Act.put, List.setIfInBounds_toArray, List.set_cons_zero, List.set_cons_succ]
  refine wpAnyR_one 19 rfl (by kernel_rfl) (fun K hK19 => ?_)
  go_simp
  go_at_call 27
  refine (type_made hM4 hNB).mono ?_
  rintro e w6 ⟨rfl, hk6⟩
  rw [HEQ.out]
  have hS6 : w6.cell? ⟨rb, 3, none⟩ = some (.slice A N c) ∧ w6.cell? ⟨xb, 0, none⟩ = some (.int .u32 (P : Int)) ∧ w6.cell? ⟨xb, 1, none⟩ = some (.int .u32 mx) ∧ w6.cell? ⟨xb, 2, none⟩ = some (.bool bd) := ⟨keep0 hk6 hS4.1, keep0 hk6 hS4.2.1, keep0 hk6 hS4.2.2.1, keep0 hk6 hS4.2.2.2⟩
  have HK6 := Lib.hid (HK4.out.then0 hk6)
  refine hK19.out _ _ (fun _ => hS6) ?_
  clear hK19 K hS4 hM4 hk6 HK4
  refine wpAnyR_take 21 (v := ?_) rfl (by kernel_rfl) (by kernel_rfl) (by kernel_rfl) (by kernel_rfl) (fun _ _ _ h => h) hS6 ⟨by rfl, ?_⟩ ?_
  rotate_left; (intro w hSw; (try dsimp only at hSw); first | (go_simp; done) | (go_simp; with_reducible rfl))
  simp only [List.getElem_toArray, List.getElem_cons_zero, List.getElem_cons_succ, Act.put, List.setIfInBounds_toArray, List.set_cons_zero, List.set_cons_succ]
  refine wpAnyR_take 22 (v := ?_) rfl (by kernel_rfl) (by kernel_rfl) (by kernel_rfl) (by kernel_rfl) (fun _ _ _ h => h) hS6 ⟨by rfl, ?_⟩ ?_
  rotate_left; (intro w hSw; (try dsimp only at hSw); first | (go_simp; done) | (go_simp; with_reducible rfl))
  simp only [List.getElem_toArray, List.getElem_cons_zero, List.getElem_cons_succ, Act.put, List.setIfInBounds_toArray, List.set_cons_zero, List.set_cons_succ]
  refine wpAnyR_take 23 (v := ?_) rfl (by kernel_rfl) (by kernel_rfl) (by kernel_rfl) (by kernel_rfl) (fun _ _ _ h => h) hS6 ⟨by rfl, ?_⟩ ?_
  rotate_left; (intro w hSw; (try dsimp only at hSw); first | (go_simp; done) | (go_simp; with_reducible rfl))
  simp only [List.getElem_toArray, List.getElem_cons_zero, List.getElem_cons_succ, Act.put, List.setIfInBounds_toArray, List.set_cons_zero, List.set_cons_succ]
  refine wpAnyR_done (by kernel_rfl) ?_ _
  clear hS6
  go_wp2_with fail
  go_ret
  exact ⟨rfl, HK6.out⟩

/-- What New answers. -/
def newE (mn mx : Int) (bd : Bool) : Int := if mayB mn mx bd 65536 = true then (if mn ≤ 16 then 0 else 3) else 2

set_option maxHeartbeats 3200000 in
set_option maxRecDepth 100000 in
theorem memPlays_bad (mn : Nat) (mx : Int) (bd : Bool) (L : Option Addr) (l lc : Nat) (w : World) (h2 : mn ≤ 4294967295) (h3 : 0 ≤ mx) (h4 : mx ≤ 4294967295) (hE : newE mn mx bd ≠ 0) :
    Calls Try.prog 7 #[.agg #[.int .u32 (mn : Int), .int .u32 mx, .bool bd], .slice L l lc] w fun e w' => e = .returned (.bool true) ∧ Kept S0 w w' := by
  obtain ⟨E, hEe⟩ : ∃ E, E = newE mn mx bd := ⟨_, rfl⟩
  have hN : ∀ w, Calls Try.prog 9 #[.agg #[.int .u32 (mn : Int), .int .u32 mx, .bool bd]] w fun e w' => e = .returned (.tuple #[.pointer none, .int .i64 E]) ∧ Kept S0 w w' := by
    intro w
    rw [hEe]
    unfold newE at hE ⊢
    by_cases hm : mayB mn mx bd 65536 = true
    · rw [if_pos hm] at hE ⊢
      by_cases h16 : (mn : Int) ≤ 16
      · rw [if_pos h16] at hE; exact absurd rfl hE
      · rw [if_neg h16]; exact new_limit mn mx bd w (by omega) (by omega) h3 h4 hm
    · rw [if_neg hm]; exact new_arg mn mx bd w (by omega) (by omega) h3 h4 (by simpa using hm)
  have hR : ∀ w, Calls Try.prog 23 #[.agg #[.int .u32 (mn : Int), .int .u32 mx, .bool bd]] w fun e w' => e = .returned (.tuple #[.pointer none, .int .i64 E]) ∧ Kept S0 w w' := by
    intro w
    rw [hEe]
    unfold newE at hE ⊢
    by_cases hm : mayB mn mx bd 65536 = true
    · rw [if_pos hm] at hE ⊢
      by_cases h16 : (mn : Int) ≤ 16
      · rw [if_pos h16] at hE; exact absurd rfl hE
      · rw [if_neg h16]; exact rnew_limit mn mx bd w (by omega) (by omega) h3 h4 hm
    · rw [if_neg hm]; exact rnew_arg mn mx bd w (by omega) (by omega) h3 h4 (by simpa using hm)
  rw [← hEe] at hE
  have r1 := beq_eq_false_iff_ne.2 hE
  have r2 := bne_iff_ne.2 hE
  have e1 : ∀ z : Int, (z != z) = false := fun z => by simp
  have HN := Lib.hid hN
  have HR := Lib.hid hR
  have hB := Blk.new w 24 #[.int .u32 (mn : Int), .int .u32 mx, .bool bd]
  have HB := Lib.hid hB
  have q0 := hB.cell 0
  have q1 := hB.cell 1
  have q2 := hB.cell 2
  have HK := Lib.hid ((Kept.refl S0 w).alloc (.cells #[.int .u32 (mn : Int), .int .u32 mx, .bool bd] 24))
  clear hN hR hE hEe hB
  go_enter Try.func7, Try.ntmps7
  go_wp2_with fail
  refine (HN.out _).mono ?_
  rintro e w1 ⟨rfl, hk1⟩
  have hb1 := hk1.blk HB.out (fun x => x)
  have HK1 := Lib.hid (HK.out.then0 hk1)
  clear q0 q1 q2 hk1
  have p0 := hb1.cell 0
  have p1 := hb1.cell 1
  have p2 := hb1.cell 2
  clear hb1
  go_wp2_with fail
  refine (HR.out _).mono ?_
  rintro e w2 ⟨rfl, hk2⟩
  have HK2 := Lib.hid (HK1.out.then0 hk2)
  clear p0 p1 p2 hk2
  go_wp2_with fail
  refine (lives_any _).mono ?_
  rintro e w3 ⟨rfl, hk3⟩
  go_wp2_with fail
  go_ret
  exact ⟨rfl, HK2.out.then0 hk3⟩

/-- The pair, whatever there is in it. -/
structure One (w0 w : World) (pb rb : Nat) (mn mx : Int) (bd : Bool) : Prop where
  ex : ∃ bb lr P f, MPair w w0.heap.size pb bb rb mn lr mx bd P f
  kept : Kept S0 w0 w

theorem One.kept0 {w0 w w' : World} {pb rb : Nat} {mn mx : Int} {bd : Bool} (h : One w0 w pb rb mn mx bd) (hk : Kept S0 w w') : One w0 w' pb rb mn mx bd := by
  obtain ⟨bb, lr, P, f, h1⟩ := h.ex
  exact ⟨⟨bb, lr, P, f, h1.kept0 hk⟩, h.kept.then0 hk⟩

theorem ActOkM.more {w w' : World} {B : Nat} {a : ActM} (h : ActOkM w B a) (hk : Kept S0 w w') (hB : B ≤ w.heap.size) : ActOkM w' B a :=
  ⟨h.ha, h.hf, h.hk, h.hlo, h.hhi, h.hs, h.sl.kept hk hB (fun _ e => e.elim), h.mB⟩

theorem One.both {w0 w : World} {pb rb : Nat} {mn mx : Int} {bd : Bool} (h : One w0 w pb rb mn mx bd) (a : ActM) (ha : ActOkM w0 w0.heap.size a) :
    Calls Try.prog 24 #[.pointer (some ⟨pb, 0, none⟩), .pointer (some ⟨rb, 0, none⟩), .agg a.cells.toArray] w fun e w' => e = .returned (.bool true) ∧ One w0 w' pb rb mn mx bd := by
  obtain ⟨bb, lr, P, f, h1⟩ := h.ex
  refine (both_any a h1 (ha.more h.kept (Nat.le_refl _))).mono ?_
  rintro e w1 ⟨rfl, bb', lr', P', f', h2, hk⟩
  exact ⟨rfl, ⟨bb', lr', P', f', h2⟩, h.kept.trans_ hk (fun i hi => .inr hi)⟩

theorem one_new {w0 w00 wa wb : World} {pb bb rb mn : Nat} {mx : Int} {bd : Bool} {lr : Value} (h0 : Kept S0 w0 w00) (ht : MemAt wa pb bb (mn * 65536) mn mx bd zeroF) (l1 : w00.heap.size ≤ pb) (l2 : w00.heap.size ≤ bb) (ka : Kept S0 w00 wa)
    (hr : RMemAt wb rb wa.heap.size (mn * 65536) mn mx bd lr zeroF) (kb : Kept S0 wa wb) (hP : mn ≤ 16) (h3 : 0 ≤ mx) (h4 : mx ≤ 4294967295) : One w0 wb pb rb mn mx bd := by
  have s0 := h0.size
  have sa := ka.size
  have sb := kb.size
  have hbb := ht.row.lt
  refine ⟨⟨bb, lr, mn, zeroF, ⟨ht.kept0 kb, ⟨hr.obj, hr.own.mono (by omega), by have := hr.lo; omega⟩, hP, h3, h4, by omega, by omega, by omega, fun e => ?_⟩⟩, (h0.then0 ka).then0 kb⟩
  have := (hr.own.lt _ e).1
  omega

set_option maxHeartbeats 6400000 in
set_option maxRecDepth 100000 in
theorem memPlays_ok (mn : Nat) (mx : Int) (bd : Bool) (L : Option Addr) (l lc : Nat) (a : Nat → ActM) (w : World) (h16 : mn ≤ 16) (h3 : 0 ≤ mx) (h4 : mx ≤ 4294967295) (hm : mayB mn mx bd 65536 = true) (hL : ActsM w L l a) :
    Calls Try.prog 7 #[.agg #[.int .u32 (mn : Int), .int .u32 mx, .bool bd], .slice L l lc] w fun e w' => e = .returned (.bool true) ∧ Kept S0 w w' := by
  have hB := Blk.new w 24 #[.int .u32 (mn : Int), .int .u32 mx, .bool bd]
  have HB := Lib.hid hB
  have q0 := hB.cell 0
  have q1 := hB.cell 1
  have q2 := hB.cell 2
  have HK := Lib.hid ((Kept.refl S0 w).alloc (.cells #[.int .u32 (mn : Int), .int .u32 mx, .bool bd] 24))
  have HM := Lib.hid hm
  have HL := Lib.hid hL
  have hll := hL.len
  clear hB hm hL
  go_enter Try.func7, Try.ntmps7
  go_wp2_with fail
  refine (new_made mn mx bd _ h16 h3 h4 HM.out).mono ?_
  rintro e w1 ⟨pb, bb, rfl, ht1, l1, l2, hk1⟩
  have hb1 := hk1.blk HB.out (fun x => x)
  have HT1 := Lib.hid ht1
  have HL1 := Lib.hid l1
  have HL2 := Lib.hid l2
  have HK1 := Lib.hid hk1
  clear q0 q1 q2 hk1 ht1 l1 l2
  have p0 := hb1.cell 0
  have p1 := hb1.cell 1
  have p2 := hb1.cell 2
  clear hb1
  go_wp2_with fail
  refine (rnew_made mx bd _ mn h16 h3 h4 HM.out).mono ?_
  rintro e w2 ⟨rb, lr, rfl, hr2, hk2⟩
  have HO := Lib.hid (one_new HK.out HT1.out HL1.out HL2.out HK1.out hr2 hk2 h16 h3 h4)
  clear p0 p1 p2 hk2 hr2 HT1 HL1 HL2 HK1 HK HB
  go_wp2_with fail
  go_loopw [9] (fun i wr => ∃ j : Nat, i = .int .i64 (j : Int) ∧ j ≤ 30 ∧ j ≤ l ∧ One w wr pb rb mn mx bd) (fun i _ => l - (intOf i).toNat)
  case atStart => exact ⟨0, rfl, by omega, by omega, HO.out⟩
  case round =>
    obtain ⟨j, rfl, hj30, hjl, hO⟩ := hrel
    clear HO
    have HO := Lib.hid hO
    clear hO
    by_cases hlt : j < l ∧ j < 30
    · obtain ⟨g1, g2⟩ := hlt
      have hji : (j : Int) < (l : Int) := by omega
      have hj8 : (j : Int) < 30 := by omega
      have uj : IntKind.i64.wrap ((j : Int) + 1) = (j : Int) + 1 := IntWalk.i64_in _ (by omega)
      obtain ⟨b, o, hLe, hbl, hact⟩ := HL.out.acts (by omega)
      subst hLe
      obtain ⟨hcl, hok⟩ := hact j g1
      generalize haj : a j = aj at *
      have hc2 : ∀ i, i < 8 → wr.cell? ⟨b, o + j * 8 + i, none⟩ = aj.cells[i]? := fun i hi => (HO.out.kept.cell (p := ⟨b, o + j * 8 + i, none⟩) hbl (fun x => x)).trans (hcl i hi)
      have q0 : wr.cell? ⟨b, o + j * 8, none⟩ = some (.int .i64 aj.d) := hc2 0 (by omega)
      have q1 : wr.cell? ⟨b, o + j * 8 + 1, none⟩ = some (.int .u64 (aj.a : Int)) := hc2 1 (by omega)
      have q2 : wr.cell? ⟨b, o + j * 8 + 2, none⟩ = some (.int .u64 (aj.fr : Int)) := hc2 2 (by omega)
      have q3 : wr.cell? ⟨b, o + j * 8 + 3, none⟩ = some (.int .u64 (aj.k : Int)) := hc2 3 (by omega)
      have q4 : wr.cell? ⟨b, o + j * 8 + 4, none⟩ = some (.int .i64 aj.s) := hc2 4 (by omega)
      have q5 : wr.cell? ⟨b, o + j * 8 + 5, none⟩ = some (.int .u64 (aj.lo : Int)) := hc2 5 (by omega)
      have q6 : wr.cell? ⟨b, o + j * 8 + 6, none⟩ = some (.int .u64 (aj.hi : Int)) := hc2 6 (by omega)
      have q7 : wr.cell? ⟨b, o + j * 8 + 7, none⟩ = some (.slice aj.L aj.m aj.c) := hc2 7 (by omega)
      have HBC := Lib.hid (show Calls Try.prog 24 #[.pointer (some ⟨pb, 0, none⟩), .pointer (some ⟨rb, 0, none⟩), .agg #[.int .i64 aj.d, .int .u64 (aj.a : Int), .int .u64 (aj.fr : Int), .int .u64 (aj.k : Int), .int .i64 aj.s, .int .u64 (aj.lo : Int), .int .u64 (aj.hi : Int), .slice aj.L aj.m aj.c]] wr fun e w' => e = .returned (.bool true) ∧ One w w' pb rb mn mx bd from HO.out.both aj hok)
      clear hact hcl hc2 hok haj
      go_wp2_with fail
      refine HBC.out.mono ?_
      rintro e w6 ⟨rfl, ho6⟩
      have HO6 := Lib.hid ho6
      clear ho6 HBC q0 q1 q2 q3 q4 q5 q6 q7
      go_wp2_with fail
      go_roundw
      case rel => exact ⟨j + 1, by go_num, by omega, by omega, HO6.out⟩
      case measure => simp [intOf]; omega
    · have hcase : (l ≤ j) ∨ (j < l ∧ j = 30) := by omega
      clear hlt
      obtain ⟨bb, lr, P, f, hp⟩ := HO.out.ex
      have HP := Lib.hid (hp.kept0 (Kept.refl S0 wr).drew)
      have HKW := Lib.hid (HO.out.kept.drew)
      clear hp HL
      have hNB : P * 65536 ≤ 1048576 := by have := HP.out.hP; omega
      obtain ⟨rA, rc, hlr, _, _, hsl⟩ := HP.out.ref.own.out
      rw [Nat.mul_one] at hsl
      have c3 := HP.out.ref.c3
      rw [hlr] at c3
      have HSL := Lib.hid hsl.slb
      clear hlr hsl
      rcases hcase with h | ⟨h1, rfl⟩
      all_goals
        first | (have g1 : (l : Int) ≤ (j : Int) := by omega) | (have g1 : (((30 : Nat) : Int)) < (l : Int) := by omega)
        go_wp2_with fail
        refine wp_region_R (fun w' => w'.cell? ⟨rb, 3, none⟩ = some (.slice rA (P * 65536) rc)) [] (by kernel_rfl) ?_
        generalize wr.drew = w3 at *
        refine wpAnyR_take 0 (v := ?_) rfl (by kernel_rfl) (by kernel_rfl) (by kernel_rfl) (by kernel_rfl) (fun _ _ _ h => h) c3 ⟨by rfl, ?_⟩ ?_
        rotate_left; (intro w hSw; (try dsimp only at hSw); first | (go_simp; done) | (go_simp; with_reducible rfl))
        simp only [List.getElem_toArray, List.getElem_cons_zero, Act.put, List.setIfInBounds_toArray, List.set_cons_zero, List.set_cons_succ]
        refine wpAnyR_take 1 (v := ?_) rfl (by kernel_rfl) (by kernel_rfl) (by kernel_rfl) (by kernel_rfl) (fun _ _ _ h => h) c3 ⟨by rfl, ?_⟩ ?_
        rotate_left; (intro w hSw; (try dsimp only at hSw); first | (go_simp; done) | (go_simp; with_reducible rfl))
        simp only [List.getElem_toArray, List.getElem_cons_zero, List.getElem_cons_succ, Act.put, List.setIfInBounds_toArray, List.set_cons_zero, List.set_cons_succ]
        refine wpAnyR_one 2 rfl (by kernel_rfl) (fun K hK2 => ?_)
        go_simp
        go_at_call 25
        refine (alike_any HP.out).mono ?_
        rintro e w4 ⟨rfl, hk4⟩
        have c4 := keep0 hk4 c3
        refine hK2.out _ _ (fun _ => c4) ?_
        clear hK2 K
        refine wpAnyR_take 3 (v := ?_) rfl (by kernel_rfl) (by kernel_rfl) (by kernel_rfl) (by kernel_rfl) (fun _ _ _ h => h) c4 ⟨by rfl, ?_⟩ ?_
        rotate_left; (intro w hSw; (try dsimp only at hSw); first | (go_simp; done) | (go_simp; with_reducible rfl))
        simp only [List.getElem_toArray, List.getElem_cons_zero, List.getElem_cons_succ, Act.put, List.setIfInBounds_toArray, List.set_cons_zero, List.set_cons_succ]
        refine wpAnyR_take 4 (v := ?_) rfl (by kernel_rfl) (by kernel_rfl) (by kernel_rfl) (by kernel_rfl) (fun _ _ _ h => h) c4 ⟨by rfl, ?_⟩ ?_
        rotate_left; (intro w hSw; (try dsimp only at hSw); first | (go_simp; done) | (go_simp; with_reducible rfl))
        simp only [List.getElem_toArray, List.getElem_cons_zero, List.getElem_cons_succ, Act.put, List.setIfInBounds_toArray, List.set_cons_zero, List.set_cons_succ]
        refine wpAnyR_take 6 (v := ?_) rfl (by kernel_rfl) (by kernel_rfl) (by kernel_rfl) (by kernel_rfl) (fun _ _ _ h => h) c4 ⟨by rfl, ?_⟩ ?_
        rotate_left; (intro w hSw; (try dsimp only at hSw); first | (go_simp; done) | (go_simp; with_reducible rfl))
        simp only [List.getElem_toArray, List.getElem_cons_zero, List.getElem_cons_succ, Act.put, List.setIfInBounds_toArray, List.set_cons_zero, List.set_cons_succ]
        refine wpAnyR_take 7 (v := ?_) rfl (by kernel_rfl) (by kernel_rfl) (by kernel_rfl) (by kernel_rfl) (fun _ _ _ h => h) c4 ⟨by rfl, ?_⟩ ?_
        rotate_left; (intro w hSw; (try dsimp only at hSw); first | (go_simp; done) | (go_simp; with_reducible rfl))
        simp only [List.getElem_toArray, List.getElem_cons_zero, List.getElem_cons_succ, Act.put, List.setIfInBounds_toArray, List.set_cons_zero, List.set_cons_succ]
        refine wpAnyR_take 8 (v := ?_) rfl (by kernel_rfl) (by kernel_rfl) (by kernel_rfl) (by kernel_rfl) (fun _ _ _ h => h) c4 ⟨by rfl, ?_⟩ ?_
        rotate_left; (intro w hSw; (try dsimp only at hSw); first | (go_simp; done) | (go_simp; with_reducible rfl))
        simp only [List.getElem_toArray, List.getElem_cons_zero, List.getElem_cons_succ, Act.put, List.setIfInBounds_toArray, List.set_cons_zero, List.set_cons_succ]
        refine wpAnyR_take 9 (v := ?_) rfl (by kernel_rfl) (by kernel_rfl) (by kernel_rfl) (by kernel_rfl) (fun _ _ _ h => h) c4 ⟨by rfl, ?_⟩ ?_
        rotate_left; (intro w hSw; (try dsimp only at hSw); first | (go_simp; done) | (go_simp; with_reducible rfl))
        simp only [List.getElem_toArray, List.getElem_cons_zero, List.getElem_cons_succ, Act.put, List.setIfInBounds_toArray, List.set_cons_zero, List.set_cons_succ]
        refine wpAnyR_one 5 rfl (by kernel_rfl) (fun K hK5 => ?_)
        go_simp
        go_at_call 21
        refine (sum_made (HP.out.mem.kept0 hk4) hNB).mono ?_
        rintro e w5 ⟨rfl, rfl⟩
        refine hK5.out _ _ (fun _ => c4) ?_
        clear hK5 K
        refine wpAnyR_one 10 rfl (by kernel_rfl) (fun K hK10 => ?_)
        go_simp
        go_at_call 26
        refine (rsum_any rA (P * 65536) rc f (HSL.out.kept hk4 (Nat.le_refl _) (fun _ e => e.elim)).sl (by omega)).mono ?_
        rintro e w6 ⟨rfl, rfl⟩
        refine hK10.out _ _ (fun _ => c4) ?_
        clear hK10 K
        have e1 : ∀ z : Int, (z == z) = true := fun z => beq_self_eq_true z
        refine wpAnyR_take 11 (v := ?_) rfl (by kernel_rfl) (by kernel_rfl) (by kernel_rfl) (by kernel_rfl) (fun _ _ _ h => h) c4 ⟨by rfl, ?_⟩ ?_
        rotate_left; (intro w hSw; (try dsimp only at hSw); first | (go_simp; done) | (go_simp; with_reducible rfl))
        simp only [List.getElem_toArray, List.getElem_cons_zero, List.getElem_cons_succ, Act.put, List.setIfInBounds_toArray, List.set_cons_zero, List.set_cons_succ]
        refine wpAnyR_take 12 (v := ?_) rfl (by kernel_rfl) (by kernel_rfl) (by kernel_rfl) (by kernel_rfl) (fun _ _ _ h => h) c4 ⟨by rfl, ?_⟩ ?_
        rotate_left; (intro w hSw; (try dsimp only at hSw); first | (go_simp; done) | (go_simp; with_reducible rfl))
        simp only [List.getElem_toArray, List.getElem_cons_zero, List.getElem_cons_succ, Act.put, List.setIfInBounds_toArray, List.set_cons_zero, List.set_cons_succ]
        refine wpAnyR_take 13 (v := ?_) rfl (by kernel_rfl) (by kernel_rfl) (by kernel_rfl) (by kernel_rfl) (fun _ _ _ h => h) c4 ⟨by rfl, ?_⟩ ?_
        rotate_left; (intro w hSw; (try dsimp only at hSw); first | (go_simp; done) | (go_simp; with_reducible rfl))
        simp only [List.getElem_toArray, List.getElem_cons_zero, List.getElem_cons_succ, Act.put, List.setIfInBounds_toArray, List.set_cons_zero, List.set_cons_succ]
        refine wpAnyR_one 14 rfl (by kernel_rfl) (fun K hK14 => ?_)
        go_simp
        go_at_call 10
        refine (lives_any _).mono ?_
        rintro e w7 ⟨rfl, hk7⟩
        have c7 := keep0 hk7 c4
        refine hK14.out _ _ (fun _ => c7) ?_
        clear hK14 K
        refine wpAnyR_take 15 (v := ?_) rfl (by kernel_rfl) (by kernel_rfl) (by kernel_rfl) (by kernel_rfl) (fun _ _ _ h => h) c7 ⟨by rfl, ?_⟩ ?_
        rotate_left; (intro w hSw; (try dsimp only at hSw); first | (go_simp; done) | (go_simp; with_reducible rfl))
        simp only [List.getElem_toArray, List.getElem_cons_zero, List.getElem_cons_succ, Act.put, List.setIfInBounds_toArray, List.set_cons_zero, List.set_cons_succ]
        refine wpAnyR_take 16 (v := ?_) rfl (by kernel_rfl) (by kernel_rfl) (by kernel_rfl) (by kernel_rfl) (fun _ _ _ h => h) c7 ⟨by rfl, ?_⟩ ?_
        rotate_left; (intro w hSw; (try dsimp only at hSw); first | (go_simp; done) | (go_simp; with_reducible rfl))
        simp only [List.getElem_toArray, List.getElem_cons_zero, List.getElem_cons_succ, Act.put, List.setIfInBounds_toArray, List.set_cons_zero, List.set_cons_succ]
        refine wpAnyR_done (by kernel_rfl) ?_ _
        have HKK := Lib.hid ((HKW.out.then0 hk4).then0 hk7)
        clear c3 c4 c7 hk4 hk7
        go_wp2_with fail
        go_ret
        exact ⟨rfl, HKK.out⟩

theorem memPlays_any (mn : Nat) (mx : Int) (bd : Bool) (L : Option Addr) (l lc : Nat) (a : Nat → ActM) (w : World) (h2 : mn ≤ 4294967295) (h3 : 0 ≤ mx) (h4 : mx ≤ 4294967295) (hL : ActsM w L l a) :
    Calls Try.prog 7 #[.agg #[.int .u32 (mn : Int), .int .u32 mx, .bool bd], .slice L l lc] w fun e w' => e = .returned (.bool true) ∧ Kept S0 w w' := by
  by_cases hE : newE mn mx bd = 0
  · unfold newE at hE
    by_cases hm : mayB mn mx bd 65536 = true
    · rw [if_pos hm] at hE
      by_cases h16 : (mn : Int) ≤ 16
      · exact memPlays_ok mn mx bd L l lc a w (by omega) h3 h4 hm hL
      · rw [if_neg h16] at hE; cases hE
    · rw [if_neg hm] at hE; cases hE
  · exact memPlays_bad mn mx bd L l lc w h2 h3 h4 hE
end Go.Proofs.Ytjkndigmoclnoaa
