/- Contracts of the statements' both: Fill, Copy. No condition. -/
import Derived.Test.YtjkndigmoclnoaaRMemF
import Derived.Test.YtjkndigmoclnoaaHeldR
namespace Go.Proofs.Ytjkndigmoclnoaa
open Go.RowKit

section
variable {w : World} {B pb bb rb : Nat} {mn mx : Int} {bd : Bool} {lr : Value} {P : Nat} {f : Nat → UInt8}
variable (a fr k : Nat) (s : Int) (lo hi : Nat) (L : Option Addr) (m c : Nat) (v : Nat → UInt8)

set_option maxRecDepth 100000 in
set_option maxHeartbeats 6400000 in
theorem both_fill (h : MPair w B pb bb rb mn lr mx bd P f) (_ha : a ≤ 18446744073709551615) (_hf : fr ≤ 18446744073709551615) (_hk : k ≤ 18446744073709551615) (_hlo : lo ≤ 18446744073709551615) (_hhi : hi ≤ 18446744073709551615) (hL : SlB B w L m (byteV v)) (hm : m ≤ 140737488351232) :
    Calls Try.prog 24 #[.pointer (some ⟨pb, 0, none⟩), .pointer (some ⟨rb, 0, none⟩), .agg #[.int .i64 4, .int .u64 (a : Int), .int .u64 (fr : Int), .int .u64 (k : Int), .int .i64 s, .int .u64 (lo : Int), .int .u64 (hi : Int), .slice L m c]] w fun e w' => e = .returned (.bool true) ∧ ∃ bb' lr' P' f', MPair w' B pb bb' rb mn lr' mx bd P' f' ∧ Kept (SB B) w w' := by
  have hka : Kept S0 w (w.alloc (.cells #[.int .i64 4, .int .u64 (a : Int), .int .u64 (fr : Int), .int .u64 (k : Int), .int .i64 s, .int .u64 (lo : Int), .int .u64 (hi : Int), .slice L m c] 62)) := (Kept.refl S0 w).alloc _
  have h1 := h.kept0 hka
  have hB := Blk.new w 62 #[.int .i64 4, .int .u64 (a : Int), .int .u64 (fr : Int), .int .u64 (k : Int), .int .i64 s, .int .u64 (lo : Int), .int .u64 (hi : Int), .slice L m c]
  have r7 := hB.cell 7
  have H1 := Lib.hid h1
  have HB := Lib.hid hB
  have e1 : ∀ z : Int, (z == z) = true := fun z => beq_self_eq_true z
  have hxl : ∀ i, SP pb bb rb lr i → i ≠ w.heap.size := fun i hi => by have := (h.low i hi).2; omega
  have HXL := Lib.hid hxl
  have HBW := Lib.hid h.hB
  have hNB : P * 65536 ≤ 1048576 := by have := h.hP; omega
  have HL1 := Lib.hid (hL.kept hka h.hB (fun _ e => e.elim))
  have HKA := Lib.hid hka
  clear h h1 hB hxl hL hka
  go_enter Try.func24, Try.ntmps24
  go_wp2_with fail
  refine (wide_any L m c v _ HL1.out.sl hm).mono ?_
  rintro e w2 ⟨g, rfl, hw2, hgl, hk2⟩
  have HG := Lib.hid (show w.heap.size < g from by have h1 := HB.out.lt; simp at h1 hgl; omega)
  have HW2 := Lib.hid hw2
  have hb2 := hk2.blk HB.out (fun x => x)
  have r0 := hb2.cell 0
  have HP2 := Lib.hid (H1.out.kept0 hk2)
  have HK2 := Lib.hid (HKA.out.then0 hk2)
  have HL2 := Lib.hid (HL1.out.kept hk2 H1.out.hB (fun _ e => e.elim))
  have HB2 := Lib.hid hb2
  have HGS := Lib.hid (show ∀ i, SP pb bb rb lr i → i ≠ g from fun i hi e => by have h1 := (H1.out.low i hi).2; simp at h1 hgl; omega)
  clear r7 hw2 hgl hk2 hb2 H1 HKA HL1 HB
  obtain ⟨cb, hcb⟩ : ∃ cb : UInt8, cb = UInt8.ofNat lo := ⟨_, rfl⟩
  have hct : IntKind.u8.wrap (lo : Int) = (cb.toNat : Int) := by rw [IntKind.wrap_u8, hcb, UInt8.toNat_ofNat']; simp
  clear hcb
  go_wp2_with fail
  clear r0
  have hdd := (Kept.refl S0 w2).drew
  have HK3 := Lib.hid (HK2.out.then0 hdd)
  have HB3 := Lib.hid (hdd.blk HB2.out (fun x => x))
  have HP3 := Lib.hid (HP2.out.kept0 hdd)
  clear hdd HB2 HP2 HK2 HW2 HL2
  generalize hxbe : w.heap.size = xb at HXL HB3 ⊢
  have HXB := Lib.hid hxbe
  clear hxbe
  refine wp_region_R (fun w' => w'.cell? ⟨xb, 1, none⟩ = some (.int .u64 (a : Int)) ∧ w'.cell? ⟨xb, 3, none⟩ = some (.int .u64 (k : Int)) ∧ w'.cell? ⟨xb, 5, none⟩ = some (.int .u64 (lo : Int))) [] (by kernel_rfl) ?_
  generalize w2.drew = w3 at *
  have hS : w3.cell? ⟨xb, 1, none⟩ = some (.int .u64 (a : Int)) ∧ w3.cell? ⟨xb, 3, none⟩ = some (.int .u64 (k : Int)) ∧ w3.cell? ⟨xb, 5, none⟩ = some (.int .u64 (lo : Int)) := ⟨HB3.out.cell 1, HB3.out.cell 3, HB3.out.cell 5⟩
  refine wpAnyR_take 0 (v := ?_) rfl (by kernel_rfl) (by kernel_rfl) (by kernel_rfl) (by kernel_rfl) (fun _ _ _ h => h) hS ⟨by rfl, ?_⟩ ?_
  rotate_left; (intro w hSw; (try dsimp only at hSw); first | (go_simp; done) | (go_simp; with_reducible rfl))
  simp only [List.getElem_toArray, List.getElem_cons_zero, Act.put, List.setIfInBounds_toArray, List.set_cons_zero, List.set_cons_succ]
  refine wpAnyR_take 1 (v := ?_) rfl (by kernel_rfl) (by kernel_rfl) (by kernel_rfl) (by kernel_rfl) (fun _ _ _ h => h) hS ⟨by rfl, ?_⟩ ?_
  rotate_left; (intro w hSw; (try dsimp only at hSw); first | (go_simp; done) | (go_simp; with_reducible rfl))
  simp only [List.getElem_toArray, List.getElem_cons_zero, List.getElem_cons_succ, Act.put, List.setIfInBounds_toArray, List.set_cons_zero, List.set_cons_succ]
  refine wpAnyR_take 2 (v := ?_) rfl (by kernel_rfl) (by kernel_rfl) (by kernel_rfl) (by kernel_rfl) (fun _ _ _ h => h) hS ⟨by rfl, ?_⟩ ?_
  rotate_left; (intro w hSw; (try dsimp only at hSw); first | (go_simp; done) | (go_simp; with_reducible rfl))
  simp only [List.getElem_toArray, List.getElem_cons_zero, List.getElem_cons_succ, Act.put, List.setIfInBounds_toArray, List.set_cons_zero, List.set_cons_succ]
  refine wpAnyR_take 3 (v := ?_) rfl (by kernel_rfl) (by kernel_rfl) (by kernel_rfl) (by kernel_rfl) (fun _ _ _ h => h) hS ⟨by rfl, ?_⟩ ?_
  rotate_left; (intro w hSw; (try dsimp only at hSw); first | (go_simp; done) | (go_simp; with_reducible rfl))
  simp only [List.getElem_toArray, List.getElem_cons_zero, List.getElem_cons_succ, Act.put, List.setIfInBounds_toArray, List.set_cons_zero, List.set_cons_succ]
  refine wpAnyR_take 4 (v := ?_) rfl (by kernel_rfl) (by kernel_rfl) (by kernel_rfl) (by kernel_rfl) (fun _ _ _ h => h) hS ⟨by rfl, ?_⟩ ?_
  rotate_left; (intro w hSw; (try dsimp only at hSw); first | (go_simp; done) | (go_simp; with_reducible rfl))
  simp only [List.getElem_toArray, List.getElem_cons_zero, List.getElem_cons_succ, Act.put, List.setIfInBounds_toArray, List.set_cons_zero, List.set_cons_succ]
  refine wpAnyR_take 5 (v := ?_) rfl (by kernel_rfl) (by kernel_rfl) (by kernel_rfl) (by kernel_rfl) (fun _ _ _ h => h) hS ⟨by rfl, ?_⟩ ?_
  rotate_left; (intro w hSw; (try dsimp only at hSw); first | (go_simp; done) | (go_simp; with_reducible rfl))
  simp only [List.getElem_toArray, List.getElem_cons_zero, List.getElem_cons_succ, Act.put, List.setIfInBounds_toArray, List.set_cons_zero, List.set_cons_succ]
  refine wpAnyR_take 6 (v := ?_) rfl (by kernel_rfl) (by kernel_rfl) (by kernel_rfl) (by kernel_rfl) (fun _ _ _ h => h) hS ⟨by rfl, ?_⟩ ?_
  rotate_left; (intro w hSw; (try dsimp only at hSw); first | (go_simp; done) | (go_simp; with_reducible rfl))
  simp only [List.getElem_toArray, List.getElem_cons_zero, List.getElem_cons_succ, Act.put, List.setIfInBounds_toArray, List.set_cons_zero, List.set_cons_succ]
  refine wpAnyR_take 7 (v := ?_) rfl (by kernel_rfl) (by kernel_rfl) (by kernel_rfl) (by kernel_rfl) (fun _ _ _ h => h) hS ⟨by rfl, ?_⟩ ?_
  rotate_left; (intro w hSw; (try dsimp only at hSw); first | (go_simp; done) | (go_simp; with_reducible rfl))
  simp only [List.getElem_toArray, List.getElem_cons_zero, List.getElem_cons_succ, Act.put, List.setIfInBounds_toArray, List.set_cons_zero, List.set_cons_succ]
  refine wpAnyR_take 8 (v := ?_) rfl (by kernel_rfl) (by kernel_rfl) (by kernel_rfl) (by kernel_rfl) (fun _ _ _ h => h) hS ⟨by rfl, ?_⟩ ?_
  rotate_left; (intro w hSw; (try dsimp only at hSw); first | (go_simp; done) | (go_simp; with_reducible rfl))
  simp only [List.getElem_toArray, List.getElem_cons_zero, List.getElem_cons_succ, Act.put, List.setIfInBounds_toArray, List.set_cons_zero, List.set_cons_succ]
  refine wpAnyR_take 10 (v := ?_) rfl (by kernel_rfl) (by kernel_rfl) (by kernel_rfl) (by kernel_rfl) (fun _ _ _ h => h) hS ⟨by rfl, ?_⟩ ?_
  rotate_left; (intro w hSw; (try dsimp only at hSw); first | (go_simp; done) | (go_simp; with_reducible rfl))
  simp only [List.getElem_toArray, List.getElem_cons_zero, List.getElem_cons_succ, Act.put, List.setIfInBounds_toArray, List.set_cons_zero, List.set_cons_succ]
  refine wpAnyR_take 11 (v := ?_) rfl (by kernel_rfl) (by kernel_rfl) (by kernel_rfl) (by kernel_rfl) (fun _ _ _ h => h) hS ⟨by rfl, ?_⟩ ?_
  rotate_left; (intro w hSw; (try dsimp only at hSw); first | (go_simp; done) | (go_simp; with_reducible rfl))
  simp only [List.getElem_toArray, List.getElem_cons_zero, List.getElem_cons_succ, Act.put, List.setIfInBounds_toArray, List.set_cons_zero, List.set_cons_succ]
  refine wpAnyR_take 12 (v := ?_) rfl (by kernel_rfl) (by kernel_rfl) (by kernel_rfl) (by kernel_rfl) (fun _ _ _ h => h) hS ⟨by rfl, ?_⟩ ?_
  rotate_left; (intro w hSw; (try dsimp only at hSw); first | (go_simp; done) | (go_simp; with_reducible rfl))
  simp only [List.getElem_toArray, List.getElem_cons_zero, List.getElem_cons_succ, Act.put, List.setIfInBounds_toArray, List.set_cons_zero, List.set_cons_succ]
  refine wpAnyR_take 13 (v := ?_) rfl (by kernel_rfl) (by kernel_rfl) (by kernel_rfl) (by kernel_rfl) (fun _ _ _ h => h) hS ⟨by rfl, ?_⟩ ?_
  rotate_left; (intro w hSw; (try dsimp only at hSw); first | (go_simp; done) | (go_simp; with_reducible rfl))
  simp only [List.getElem_toArray, List.getElem_cons_zero, List.getElem_cons_succ, Act.put, List.setIfInBounds_toArray, List.set_cons_zero, List.set_cons_succ]
  refine wpAnyR_take 14 (v := ?_) rfl (by kernel_rfl) (by kernel_rfl) (by kernel_rfl) (by kernel_rfl) (fun _ _ _ h => h) hS ⟨by rfl, ?_⟩ ?_
  rotate_left; (intro w hSw; (try dsimp only at hSw); first | (go_simp; done) | (go_simp; with_reducible rfl))
  simp only [List.getElem_toArray, List.getElem_cons_zero, List.getElem_cons_succ, Act.put, List.setIfInBounds_toArray, List.set_cons_zero, List.set_cons_succ]
  refine wpAnyR_take 15 (v := ?_) rfl (by kernel_rfl) (by kernel_rfl) (by kernel_rfl) (by kernel_rfl) (fun _ _ _ h => h) hS ⟨by rfl, ?_⟩ ?_
  rotate_left; (intro w hSw; (try dsimp only at hSw); first | (go_simp; done) | (go_simp; with_reducible rfl))
  simp only [List.getElem_toArray, List.getElem_cons_zero, List.getElem_cons_succ, Act.put, List.setIfInBounds_toArray, List.set_cons_zero, List.set_cons_succ]
  refine wpAnyR_take 16 (v := ?_) rfl (by kernel_rfl) (by kernel_rfl) (by kernel_rfl) (by kernel_rfl) (fun _ _ _ h => h) hS ⟨by rfl, ?_⟩ ?_
  rotate_left; (intro w hSw; (try dsimp only at hSw); first | (go_simp; done) | (go_simp; with_reducible rfl))
  simp only [List.getElem_toArray, List.getElem_cons_zero, List.getElem_cons_succ, Act.put, List.setIfInBounds_toArray, List.set_cons_zero, List.set_cons_succ]
  refine wpAnyR_take 17 (v := ?_) rfl (by kernel_rfl) (by kernel_rfl) (by kernel_rfl) (by kernel_rfl) (fun _ _ _ h => h) hS ⟨by rfl, ?_⟩ ?_
  rotate_left; (intro w hSw; (try dsimp only at hSw); first | (go_simp; done) | (go_simp; with_reducible rfl))
  simp only [List.getElem_toArray, List.getElem_cons_zero, List.getElem_cons_succ, Act.put, List.setIfInBounds_toArray, List.set_cons_zero, List.set_cons_succ]
  refine wpAnyR_take 18 (v := ?_) rfl (by kernel_rfl) (by kernel_rfl) (by kernel_rfl) (by kernel_rfl) (fun _ _ _ h => h) hS ⟨by rfl, ?_⟩ ?_
  rotate_left; (intro w hSw; (try dsimp only at hSw); first | (go_simp; done) | (go_simp; with_reducible rfl))
  simp only [List.getElem_toArray, List.getElem_cons_zero, List.getElem_cons_succ, Act.put, List.setIfInBounds_toArray, List.set_cons_zero, List.set_cons_succ]
  refine wpAnyR_one 9 rfl (by kernel_rfl) (fun K hK1 => ?_)
  go_simp
  go_at_call 11
  refine (fill_is a k cb HP3.out.mem hNB _ha _hk).mono ?_
  rintro e w4 ⟨rfl, hm4, hk4⟩
  have hb4 := hk4.blk HB3.out (fun e => HXL.out _ (.inr (.inl rfl)) (Eq.symm e))

  have hS4 : w4.cell? ⟨xb, 1, none⟩ = some (.int .u64 (a : Int)) ∧ w4.cell? ⟨xb, 3, none⟩ = some (.int .u64 (k : Int)) ∧ w4.cell? ⟨xb, 5, none⟩ = some (.int .u64 (lo : Int)) := ⟨hb4.cell 1, hb4.cell 3, hb4.cell 5⟩
  have HR4 := Lib.hid (HP3.out.ref1 (Kept.s1b hk4))
  have HK4 := Lib.hid hk4
  have HB4 := Lib.hid hb4
  have HM4 := Lib.hid hm4
  refine hK1.out _ _ (fun _ => hS4) ?_
  clear hK1 K hS HB3 hk4 hb4 hm4
  refine wpAnyR_one 19 rfl (by kernel_rfl) (fun K hK2 => ?_)
  go_simp
  go_at_call 41
  refine (rfill_is a k cb HR4.out hNB _ha _hk).mono ?_
  rintro e w5 ⟨rfl, hm5, hk5⟩
  have hb5 := hk5.blk HB4.out (fun e => HXL.out _ (.inr (.inr (.inr e))) rfl)

  have hS5 : w5.cell? ⟨xb, 1, none⟩ = some (.int .u64 (a : Int)) ∧ w5.cell? ⟨xb, 3, none⟩ = some (.int .u64 (k : Int)) ∧ w5.cell? ⟨xb, 5, none⟩ = some (.int .u64 (lo : Int)) := ⟨hb5.cell 1, hb5.cell 3, hb5.cell 5⟩
  have HST := Lib.hid (HP3.out.step HM4.out (Kept.s1b HK4.out) (.inl rfl) hm5 (Kept.so_st hk5) (.inl rfl) HP3.out.hP)
  refine hK2.out _ _ (fun _ => hS5) ?_
  clear hK2 K hS4 HK4 HB4 HM4 HR4 hb5 hm5 hk5
  refine wpAnyR_take 20 (v := ?_) rfl (by kernel_rfl) (by kernel_rfl) (by kernel_rfl) (by kernel_rfl) (fun _ _ _ h => h) hS5 ⟨by rfl, ?_⟩ ?_
  rotate_left; (intro w hSw; (try dsimp only at hSw); first | (go_simp; done) | (go_simp; with_reducible rfl))
  simp only [List.getElem_toArray, List.getElem_cons_zero, List.getElem_cons_succ, Act.put, List.setIfInBounds_toArray, List.set_cons_zero, List.set_cons_succ]
  refine wpAnyR_take 21 (v := ?_) rfl (by kernel_rfl) (by kernel_rfl) (by kernel_rfl) (by kernel_rfl) (fun _ _ _ h => h) hS5 ⟨by rfl, ?_⟩ ?_
  rotate_left; (intro w hSw; (try dsimp only at hSw); first | (go_simp; done) | (go_simp; with_reducible rfl))
  simp only [List.getElem_toArray, List.getElem_cons_zero, List.getElem_cons_succ, Act.put, List.setIfInBounds_toArray, List.set_cons_zero, List.set_cons_succ]
  refine wpAnyR_done (by kernel_rfl) ?_ _
  clear hS5
  go_wp2_with fail
  go_ret
  exact ⟨rfl, _, _, _, _, HST.out.1, (HK3.out.of0 _).trans HST.out.2⟩

set_option maxRecDepth 100000 in
set_option maxHeartbeats 6400000 in
theorem both_copy (h : MPair w B pb bb rb mn lr mx bd P f) (_ha : a ≤ 18446744073709551615) (_hf : fr ≤ 18446744073709551615) (_hk : k ≤ 18446744073709551615) (_hlo : lo ≤ 18446744073709551615) (_hhi : hi ≤ 18446744073709551615) (hL : SlB B w L m (byteV v)) (hm : m ≤ 140737488351232) :
    Calls Try.prog 24 #[.pointer (some ⟨pb, 0, none⟩), .pointer (some ⟨rb, 0, none⟩), .agg #[.int .i64 5, .int .u64 (a : Int), .int .u64 (fr : Int), .int .u64 (k : Int), .int .i64 s, .int .u64 (lo : Int), .int .u64 (hi : Int), .slice L m c]] w fun e w' => e = .returned (.bool true) ∧ ∃ bb' lr' P' f', MPair w' B pb bb' rb mn lr' mx bd P' f' ∧ Kept (SB B) w w' := by
  have hka : Kept S0 w (w.alloc (.cells #[.int .i64 5, .int .u64 (a : Int), .int .u64 (fr : Int), .int .u64 (k : Int), .int .i64 s, .int .u64 (lo : Int), .int .u64 (hi : Int), .slice L m c] 62)) := (Kept.refl S0 w).alloc _
  have h1 := h.kept0 hka
  have hB := Blk.new w 62 #[.int .i64 5, .int .u64 (a : Int), .int .u64 (fr : Int), .int .u64 (k : Int), .int .i64 s, .int .u64 (lo : Int), .int .u64 (hi : Int), .slice L m c]
  have r7 := hB.cell 7
  have H1 := Lib.hid h1
  have HB := Lib.hid hB
  have e1 : ∀ z : Int, (z == z) = true := fun z => beq_self_eq_true z
  have hxl : ∀ i, SP pb bb rb lr i → i ≠ w.heap.size := fun i hi => by have := (h.low i hi).2; omega
  have HXL := Lib.hid hxl
  have HBW := Lib.hid h.hB
  have hNB : P * 65536 ≤ 1048576 := by have := h.hP; omega
  have HL1 := Lib.hid (hL.kept hka h.hB (fun _ e => e.elim))
  have HKA := Lib.hid hka
  clear h h1 hB hxl hL hka
  go_enter Try.func24, Try.ntmps24
  go_wp2_with fail
  refine (wide_any L m c v _ HL1.out.sl hm).mono ?_
  rintro e w2 ⟨g, rfl, hw2, hgl, hk2⟩
  have HG := Lib.hid (show w.heap.size < g from by have h1 := HB.out.lt; simp at h1 hgl; omega)
  have HW2 := Lib.hid hw2
  have hb2 := hk2.blk HB.out (fun x => x)
  have r0 := hb2.cell 0
  have HP2 := Lib.hid (H1.out.kept0 hk2)
  have HK2 := Lib.hid (HKA.out.then0 hk2)
  have HL2 := Lib.hid (HL1.out.kept hk2 H1.out.hB (fun _ e => e.elim))
  have HB2 := Lib.hid hb2
  have HGS := Lib.hid (show ∀ i, SP pb bb rb lr i → i ≠ g from fun i hi e => by have h1 := (H1.out.low i hi).2; simp at h1 hgl; omega)
  clear r7 hw2 hgl hk2 hb2 H1 HKA HL1 HB
  obtain ⟨rA, rc, hlre, _, _, _⟩ := HP2.out.ref.own.out
  have HLR := Lib.hid hlre
  clear hlre
  go_wp2_with fail
  clear r0
  have hdd := (Kept.refl S0 w2).drew
  have HK3 := Lib.hid (HK2.out.then0 hdd)
  have HB3 := Lib.hid (hdd.blk HB2.out (fun x => x))
  have HP3 := Lib.hid (HP2.out.kept0 hdd)
  clear hdd HB2 HP2 HK2 HW2 HL2
  generalize hxbe : w.heap.size = xb at HXL HB3 ⊢
  have HXB := Lib.hid hxbe
  clear hxbe
  refine wp_region_R (fun w' => w'.cell? ⟨xb, 1, none⟩ = some (.int .u64 (a : Int)) ∧ w'.cell? ⟨xb, 2, none⟩ = some (.int .u64 (fr : Int)) ∧ w'.cell? ⟨xb, 3, none⟩ = some (.int .u64 (k : Int)) ∧ w'.cell? ⟨rb, 3, none⟩ = some (.slice rA (P * 65536) rc)) [] (by kernel_rfl) ?_
  generalize w2.drew = w3 at *
  have hlr3 := HP3.out.ref.c3
  rw [HLR.out] at hlr3
  have hS : w3.cell? ⟨xb, 1, none⟩ = some (.int .u64 (a : Int)) ∧ w3.cell? ⟨xb, 2, none⟩ = some (.int .u64 (fr : Int)) ∧ w3.cell? ⟨xb, 3, none⟩ = some (.int .u64 (k : Int)) ∧ w3.cell? ⟨rb, 3, none⟩ = some (.slice rA (P * 65536) rc) := ⟨HB3.out.cell 1, HB3.out.cell 2, HB3.out.cell 3, hlr3⟩
  refine wpAnyR_take 0 (v := ?_) rfl (by kernel_rfl) (by kernel_rfl) (by kernel_rfl) (by kernel_rfl) (fun _ _ _ h => h) hS ⟨by rfl, ?_⟩ ?_
  rotate_left; (intro w hSw; (try dsimp only at hSw); first | (go_simp; done) | (go_simp; with_reducible rfl))
  simp only [List.getElem_toArray, List.getElem_cons_zero, Act.put, List.setIfInBounds_toArray, List.set_cons_zero, List.set_cons_succ]
  refine wpAnyR_take 1 (v := ?_) rfl (by kernel_rfl) (by kernel_rfl) (by kernel_rfl) (by kernel_rfl) (fun _ _ _ h => h) hS ⟨by rfl, ?_⟩ ?_
  rotate_left; (intro w hSw; (try dsimp only at hSw); first | (go_simp; done) | (go_simp; with_reducible rfl))
  simp only [List.getElem_toArray, List.getElem_cons_zero, List.getElem_cons_succ, Act.put, List.setIfInBounds_toArray, List.set_cons_zero, List.set_cons_succ]
  refine wpAnyR_take 2 (v := ?_) rfl (by kernel_rfl) (by kernel_rfl) (by kernel_rfl) (by kernel_rfl) (fun _ _ _ h => h) hS ⟨by rfl, ?_⟩ ?_
  rotate_left; (intro w hSw; (try dsimp only at hSw); first | (go_simp; done) | (go_simp; with_reducible rfl))
  simp only [List.getElem_toArray, List.getElem_cons_zero, List.getElem_cons_succ, Act.put, List.setIfInBounds_toArray, List.set_cons_zero, List.set_cons_succ]
  refine wpAnyR_take 3 (v := ?_) rfl (by kernel_rfl) (by kernel_rfl) (by kernel_rfl) (by kernel_rfl) (fun _ _ _ h => h) hS ⟨by rfl, ?_⟩ ?_
  rotate_left; (intro w hSw; (try dsimp only at hSw); first | (go_simp; done) | (go_simp; with_reducible rfl))
  simp only [List.getElem_toArray, List.getElem_cons_zero, List.getElem_cons_succ, Act.put, List.setIfInBounds_toArray, List.set_cons_zero, List.set_cons_succ]
  refine wpAnyR_take 4 (v := ?_) rfl (by kernel_rfl) (by kernel_rfl) (by kernel_rfl) (by kernel_rfl) (fun _ _ _ h => h) hS ⟨by rfl, ?_⟩ ?_
  rotate_left; (intro w hSw; (try dsimp only at hSw); first | (go_simp; done) | (go_simp; with_reducible rfl))
  simp only [List.getElem_toArray, List.getElem_cons_zero, List.getElem_cons_succ, Act.put, List.setIfInBounds_toArray, List.set_cons_zero, List.set_cons_succ]
  refine wpAnyR_take 5 (v := ?_) rfl (by kernel_rfl) (by kernel_rfl) (by kernel_rfl) (by kernel_rfl) (fun _ _ _ h => h) hS ⟨by rfl, ?_⟩ ?_
  rotate_left; (intro w hSw; (try dsimp only at hSw); first | (go_simp; done) | (go_simp; with_reducible rfl))
  simp only [List.getElem_toArray, List.getElem_cons_zero, List.getElem_cons_succ, Act.put, List.setIfInBounds_toArray, List.set_cons_zero, List.set_cons_succ]
  refine wpAnyR_take 6 (v := ?_) rfl (by kernel_rfl) (by kernel_rfl) (by kernel_rfl) (by kernel_rfl) (fun _ _ _ h => h) hS ⟨by rfl, ?_⟩ ?_
  rotate_left; (intro w hSw; (try dsimp only at hSw); first | (go_simp; done) | (go_simp; with_reducible rfl))
  simp only [List.getElem_toArray, List.getElem_cons_zero, List.getElem_cons_succ, Act.put, List.setIfInBounds_toArray, List.set_cons_zero, List.set_cons_succ]
  refine wpAnyR_take 8 (v := ?_) rfl (by kernel_rfl) (by kernel_rfl) (by kernel_rfl) (by kernel_rfl) (fun _ _ _ h => h) hS ⟨by rfl, ?_⟩ ?_
  rotate_left; (intro w hSw; (try dsimp only at hSw); first | (go_simp; done) | (go_simp; with_reducible rfl))
  simp only [List.getElem_toArray, List.getElem_cons_zero, List.getElem_cons_succ, Act.put, List.setIfInBounds_toArray, List.set_cons_zero, List.set_cons_succ]
  refine wpAnyR_take 9 (v := ?_) rfl (by kernel_rfl) (by kernel_rfl) (by kernel_rfl) (by kernel_rfl) (fun _ _ _ h => h) hS ⟨by rfl, ?_⟩ ?_
  rotate_left; (intro w hSw; (try dsimp only at hSw); first | (go_simp; done) | (go_simp; with_reducible rfl))
  simp only [List.getElem_toArray, List.getElem_cons_zero, List.getElem_cons_succ, Act.put, List.setIfInBounds_toArray, List.set_cons_zero, List.set_cons_succ]
  refine wpAnyR_take 10 (v := ?_) rfl (by kernel_rfl) (by kernel_rfl) (by kernel_rfl) (by kernel_rfl) (fun _ _ _ h => h) hS ⟨by rfl, ?_⟩ ?_
  rotate_left; (intro w hSw; (try dsimp only at hSw); first | (go_simp; done) | (go_simp; with_reducible rfl))
  simp only [List.getElem_toArray, List.getElem_cons_zero, List.getElem_cons_succ, Act.put, List.setIfInBounds_toArray, List.set_cons_zero, List.set_cons_succ]
  refine wpAnyR_take 11 (v := ?_) rfl (by kernel_rfl) (by kernel_rfl) (by kernel_rfl) (by kernel_rfl) (fun _ _ _ h => h) hS ⟨by rfl, ?_⟩ ?_
  rotate_left; (intro w hSw; (try dsimp only at hSw); first | (go_simp; done) | (go_simp; with_reducible rfl))
  simp only [List.getElem_toArray, List.getElem_cons_zero, List.getElem_cons_succ, Act.put, List.setIfInBounds_toArray, List.set_cons_zero, List.set_cons_succ]
  refine wpAnyR_take 12 (v := ?_) rfl (by kernel_rfl) (by kernel_rfl) (by kernel_rfl) (by kernel_rfl) (fun _ _ _ h => h) hS ⟨by rfl, ?_⟩ ?_
  rotate_left; (intro w hSw; (try dsimp only at hSw); first | (go_simp; done) | (go_simp; with_reducible rfl))
  simp only [List.getElem_toArray, List.getElem_cons_zero, List.getElem_cons_succ, Act.put, List.setIfInBounds_toArray, List.set_cons_zero, List.set_cons_succ]
  refine wpAnyR_take 13 (v := ?_) rfl (by kernel_rfl) (by kernel_rfl) (by kernel_rfl) (by kernel_rfl) (fun _ _ _ h => h) hS ⟨by rfl, ?_⟩ ?_
  rotate_left; (intro w hSw; (try dsimp only at hSw); first | (go_simp; done) | (go_simp; with_reducible rfl))
  simp only [List.getElem_toArray, List.getElem_cons_zero, List.getElem_cons_succ, Act.put, List.setIfInBounds_toArray, List.set_cons_zero, List.set_cons_succ]
  refine wpAnyR_take 14 (v := ?_) rfl (by kernel_rfl) (by kernel_rfl) (by kernel_rfl) (by kernel_rfl) (fun _ _ _ h => h) hS ⟨by rfl, ?_⟩ ?_
  rotate_left; (intro w hSw; (try dsimp only at hSw); first | (go_simp; done) | (go_simp; with_reducible rfl))
  simp only [List.getElem_toArray, List.getElem_cons_zero, List.getElem_cons_succ, Act.put, List.setIfInBounds_toArray, List.set_cons_zero, List.set_cons_succ]
  refine wpAnyR_take 15 (v := ?_) rfl (by kernel_rfl) (by kernel_rfl) (by kernel_rfl) (by kernel_rfl) (fun _ _ _ h => h) hS ⟨by rfl, ?_⟩ ?_
  rotate_left; (intro w hSw; (try dsimp only at hSw); first | (go_simp; done) | (go_simp; with_reducible rfl))
  simp only [List.getElem_toArray, List.getElem_cons_zero, List.getElem_cons_succ, Act.put, List.setIfInBounds_toArray, List.set_cons_zero, List.set_cons_succ]
  refine wpAnyR_take 16 (v := ?_) rfl (by kernel_rfl) (by kernel_rfl) (by kernel_rfl) (by kernel_rfl) (fun _ _ _ h => h) hS ⟨by rfl, ?_⟩ ?_
  rotate_left; (intro w hSw; (try dsimp only at hSw); first | (go_simp; done) | (go_simp; with_reducible rfl))
  simp only [List.getElem_toArray, List.getElem_cons_zero, List.getElem_cons_succ, Act.put, List.setIfInBounds_toArray, List.set_cons_zero, List.set_cons_succ]
  refine wpAnyR_take 17 (v := ?_) rfl (by kernel_rfl) (by kernel_rfl) (by kernel_rfl) (by kernel_rfl) (fun _ _ _ h => h) hS ⟨by rfl, ?_⟩ ?_
  rotate_left; (intro w hSw; (try dsimp only at hSw); first | (go_simp; done) | (go_simp; with_reducible rfl))
  simp only [List.getElem_toArray, List.getElem_cons_zero, List.getElem_cons_succ, Act.put, List.setIfInBounds_toArray, List.set_cons_zero, List.set_cons_succ]
  refine wpAnyR_take 18 (v := ?_) rfl (by kernel_rfl) (by kernel_rfl) (by kernel_rfl) (by kernel_rfl) (fun _ _ _ h => h) hS ⟨by rfl, ?_⟩ ?_
  rotate_left; (intro w hSw; (try dsimp only at hSw); first | (go_simp; done) | (go_simp; with_reducible rfl))
  simp only [List.getElem_toArray, List.getElem_cons_zero, List.getElem_cons_succ, Act.put, List.setIfInBounds_toArray, List.set_cons_zero, List.set_cons_succ]
  refine wpAnyR_one 7 rfl (by kernel_rfl) (fun K hK1 => ?_)
  go_simp
  go_at_call 17
  refine (copy_is a fr k HP3.out.mem hNB _ha _hf _hk).mono ?_
  rintro e w4 ⟨rfl, hm4, hk4⟩
  have hb4 := hk4.blk HB3.out (fun e => HXL.out _ (.inr (.inl rfl)) (Eq.symm e))
  have hlr4 : w4.cell? ⟨rb, 3, none⟩ = some (.slice rA (P * 65536) rc) := (hk4.cell (p := ⟨rb, 3, none⟩) HP3.out.ref.obj.lt (fun e => HP3.out.ne2 (Eq.symm e))).trans hlr3
  have hS4 : w4.cell? ⟨xb, 1, none⟩ = some (.int .u64 (a : Int)) ∧ w4.cell? ⟨xb, 2, none⟩ = some (.int .u64 (fr : Int)) ∧ w4.cell? ⟨xb, 3, none⟩ = some (.int .u64 (k : Int)) ∧ w4.cell? ⟨rb, 3, none⟩ = some (.slice rA (P * 65536) rc) := ⟨hb4.cell 1, hb4.cell 2, hb4.cell 3, hlr4⟩
  have HR4 := Lib.hid (HP3.out.ref1 (Kept.s1b hk4))
  have HK4 := Lib.hid hk4
  have HB4 := Lib.hid hb4
  have HM4 := Lib.hid hm4
  refine hK1.out _ _ (fun _ => hS4) ?_
  clear hK1 K hS HB3 hk4 hb4 hm4
  refine wpAnyR_one 19 rfl (by kernel_rfl) (fun K hK2 => ?_)
  go_simp
  go_at_call 39
  refine (rput_is a fr k rA (P * 65536) rc f HR4.out hNB (show Sl _ rA (P * 65536) (byteV f) from by obtain ⟨A', c', e', _, _, hs'⟩ := HR4.out.own.out; rw [HLR.out] at e'; cases e'; rw [Nat.mul_one] at hs'; exact hs') (by omega) _ha _hf _hk).mono ?_
  rintro e w5 ⟨rfl, hm5, hk5⟩
  have hb5 := hk5.blk HB4.out (fun e => HXL.out _ (.inr (.inr (.inr e))) rfl)
  have hlr5 : w5.cell? ⟨rb, 3, none⟩ = some (.slice rA (P * 65536) rc) := (hk5.cell (p := ⟨rb, 3, none⟩) HR4.out.obj.lt (fun e => HR4.out.ne e)).trans hlr4
  have hS5 : w5.cell? ⟨xb, 1, none⟩ = some (.int .u64 (a : Int)) ∧ w5.cell? ⟨xb, 2, none⟩ = some (.int .u64 (fr : Int)) ∧ w5.cell? ⟨xb, 3, none⟩ = some (.int .u64 (k : Int)) ∧ w5.cell? ⟨rb, 3, none⟩ = some (.slice rA (P * 65536) rc) := ⟨hb5.cell 1, hb5.cell 2, hb5.cell 3, hlr5⟩
  have HST := Lib.hid (HP3.out.step HM4.out (Kept.s1b HK4.out) (.inl rfl) hm5 (Kept.so_st hk5) (.inl rfl) HP3.out.hP)
  refine hK2.out _ _ (fun _ => hS5) ?_
  clear hK2 K hS4 HK4 HB4 HM4 HR4 hb5 hm5 hk5 hlr3 hlr4 hlr5
  refine wpAnyR_take 20 (v := ?_) rfl (by kernel_rfl) (by kernel_rfl) (by kernel_rfl) (by kernel_rfl) (fun _ _ _ h => h) hS5 ⟨by rfl, ?_⟩ ?_
  rotate_left; (intro w hSw; (try dsimp only at hSw); first | (go_simp; done) | (go_simp; with_reducible rfl))
  simp only [List.getElem_toArray, List.getElem_cons_zero, List.getElem_cons_succ, Act.put, List.setIfInBounds_toArray, List.set_cons_zero, List.set_cons_succ]
  refine wpAnyR_take 21 (v := ?_) rfl (by kernel_rfl) (by kernel_rfl) (by kernel_rfl) (by kernel_rfl) (fun _ _ _ h => h) hS5 ⟨by rfl, ?_⟩ ?_
  rotate_left; (intro w hSw; (try dsimp only at hSw); first | (go_simp; done) | (go_simp; with_reducible rfl))
  simp only [List.getElem_toArray, List.getElem_cons_zero, List.getElem_cons_succ, Act.put, List.setIfInBounds_toArray, List.set_cons_zero, List.set_cons_succ]
  refine wpAnyR_done (by kernel_rfl) ?_ _
  clear hS5
  go_wp2_with fail
  go_ret
  exact ⟨rfl, _, _, _, _, HST.out.1, (HK3.out.of0 _).trans HST.out.2⟩
end
end Go.Proofs.Ytjkndigmoclnoaa
