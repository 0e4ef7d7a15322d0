/- Contracts of the statements' both: Load, Store. No condition. -/
import Derived.Test.YtjkndigmoclnoaaRMemF
import Derived.Test.YtjkndigmoclnoaaHeldR
namespace Go.Proofs.Ytjkndigmoclnoaa
open Go.RowKit

section
variable {w : World} {B pb bb rb : Nat} {mn mx : Int} {bd : Bool} {lr : Value} {P : Nat} {f : Nat → UInt8}
variable (a fr k : Nat) (s : Int) (lo hi : Nat) (L : Option Addr) (m c : Nat) (v : Nat → UInt8)

set_option maxRecDepth 100000 in
set_option maxHeartbeats 6400000 in
theorem both_load (h : MPair w B pb bb rb mn lr mx bd P f) (_ha : a ≤ 18446744073709551615) (_hf : fr ≤ 18446744073709551615) (_hk : k ≤ 18446744073709551615) (_hlo : lo ≤ 18446744073709551615) (_hhi : hi ≤ 18446744073709551615) (hL : SlB B w L m (byteV v)) (hm : m ≤ 140737488351232) :
    Calls Try.prog 24 #[.pointer (some ⟨pb, 0, none⟩), .pointer (some ⟨rb, 0, none⟩), .agg #[.int .i64 0, .int .u64 (a : Int), .int .u64 (fr : Int), .int .u64 (k : Int), .int .i64 s, .int .u64 (lo : Int), .int .u64 (hi : Int), .slice L m c]] w fun e w' => e = .returned (.bool true) ∧ ∃ bb' lr' P' f', MPair w' B pb bb' rb mn lr' mx bd P' f' ∧ Kept (SB B) w w' := by
  have hka : Kept S0 w (w.alloc (.cells #[.int .i64 0, .int .u64 (a : Int), .int .u64 (fr : Int), .int .u64 (k : Int), .int .i64 s, .int .u64 (lo : Int), .int .u64 (hi : Int), .slice L m c] 62)) := (Kept.refl S0 w).alloc _
  have h1 := h.kept0 hka
  have hB := Blk.new w 62 #[.int .i64 0, .int .u64 (a : Int), .int .u64 (fr : Int), .int .u64 (k : Int), .int .i64 s, .int .u64 (lo : Int), .int .u64 (hi : Int), .slice L m c]
  have r7 := hB.cell 7
  have H1 := Lib.hid h1
  have HB := Lib.hid hB
  have e1 : ∀ z : Int, (z == z) = true := fun z => beq_self_eq_true z
  have hxl : ∀ i, SP pb bb rb lr i → i ≠ w.heap.size := fun i hi => by have := (h.low i hi).2; omega
  have HXL := Lib.hid hxl
  have HBW := Lib.hid h.hB
  have hNB : P * 65536 ≤ 1048576 := by have := h.hP; omega
  have HL1 := Lib.hid (hL.kept hka h.hB (fun _ e => e.elim))
  have HKA := Lib.hid hka
  clear h h1 hB hxl hL hka
  go_enter Try.func24, Try.ntmps24
  go_wp2_with fail
  refine (wide_any L m c v _ HL1.out.sl hm).mono ?_
  rintro e w2 ⟨g, rfl, hw2, hgl, hk2⟩
  have HG := Lib.hid (show w.heap.size < g from by have h1 := HB.out.lt; simp at h1 hgl; omega)
  have HW2 := Lib.hid hw2
  have hb2 := hk2.blk HB.out (fun x => x)
  have r0 := hb2.cell 0
  have HP2 := Lib.hid (H1.out.kept0 hk2)
  have HK2 := Lib.hid (HKA.out.then0 hk2)
  have HL2 := Lib.hid (HL1.out.kept hk2 H1.out.hB (fun _ e => e.elim))
  have HB2 := Lib.hid hb2
  have HGS := Lib.hid (show ∀ i, SP pb bb rb lr i → i ≠ g from fun i hi e => by have h1 := (H1.out.low i hi).2; simp at h1 hgl; omega)
  clear r7 hw2 hgl hk2 hb2 H1 HKA HL1 HB
  have r1 := HB2.out.cell 1
  have r4 := HB2.out.cell 4
  go_wp2_with fail
  refine (load_is a s HP2.out.mem hNB _ha).mono ?_
  rintro e w3 ⟨rfl, hk3⟩
  have hk3' := hk3.alloc (.cells #[.int .u64 (ldL (P * 65536) f a s), .int .u64 (ldH (P * 65536) f a s)] 47)
  have hv3 := Blk.new w3 47 #[.int .u64 (ldL (P * 65536) f a s), .int .u64 (ldH (P * 65536) f a s)]
  have HB3 := Lib.hid (hk3'.blk HB2.out (fun x => x))
  have HP3 := Lib.hid (HP2.out.kept0 hk3')
  have HK3 := Lib.hid (HK2.out.then0 hk3')
  clear hk3 hk3'
  clear r0 r1 r4
  have t1 := HB3.out.cell 1
  have t4 := HB3.out.cell 4
  go_wp2_with fail
  refine (rload_is a s HP3.out.ref hNB _ha).mono ?_
  rintro e w4 ⟨rfl, hk4⟩
  have hk4' := hk4.alloc (.cells #[.int .u64 (ldL (P * 65536) f a s), .int .u64 (ldH (P * 65536) f a s)] 47)
  have hv4 := (hk4.blk hv3 (fun x => x)).alloc (.cells #[.int .u64 (ldL (P * 65536) f a s), .int .u64 (ldH (P * 65536) f a s)] 47)
  have v0 := hv4.cell 0
  have v1 := hv4.cell 1
  have HP4 := Lib.hid (HP3.out.kept0 hk4')
  have HK4 := Lib.hid (HK3.out.then0 hk4')
  clear hk4 hk4' hv3 hv4
  clear t1 t4
  go_wp2_with fail
  go_ret
  exact ⟨rfl, _, _, _, _, HP4.out, HK4.out.of0 _⟩

set_option maxRecDepth 100000 in
set_option maxHeartbeats 6400000 in
theorem both_store (h : MPair w B pb bb rb mn lr mx bd P f) (_ha : a ≤ 18446744073709551615) (_hf : fr ≤ 18446744073709551615) (_hk : k ≤ 18446744073709551615) (_hlo : lo ≤ 18446744073709551615) (_hhi : hi ≤ 18446744073709551615) (hL : SlB B w L m (byteV v)) (hm : m ≤ 140737488351232) :
    Calls Try.prog 24 #[.pointer (some ⟨pb, 0, none⟩), .pointer (some ⟨rb, 0, none⟩), .agg #[.int .i64 1, .int .u64 (a : Int), .int .u64 (fr : Int), .int .u64 (k : Int), .int .i64 s, .int .u64 (lo : Int), .int .u64 (hi : Int), .slice L m c]] w fun e w' => e = .returned (.bool true) ∧ ∃ bb' lr' P' f', MPair w' B pb bb' rb mn lr' mx bd P' f' ∧ Kept (SB B) w w' := by
  have hka : Kept S0 w (w.alloc (.cells #[.int .i64 1, .int .u64 (a : Int), .int .u64 (fr : Int), .int .u64 (k : Int), .int .i64 s, .int .u64 (lo : Int), .int .u64 (hi : Int), .slice L m c] 62)) := (Kept.refl S0 w).alloc _
  have h1 := h.kept0 hka
  have hB := Blk.new w 62 #[.int .i64 1, .int .u64 (a : Int), .int .u64 (fr : Int), .int .u64 (k : Int), .int .i64 s, .int .u64 (lo : Int), .int .u64 (hi : Int), .slice L m c]
  have r7 := hB.cell 7
  have H1 := Lib.hid h1
  have HB := Lib.hid hB
  have e1 : ∀ z : Int, (z == z) = true := fun z => beq_self_eq_true z
  have hxl : ∀ i, SP pb bb rb lr i → i ≠ w.heap.size := fun i hi => by have := (h.low i hi).2; omega
  have HXL := Lib.hid hxl
  have HBW := Lib.hid h.hB
  have hNB : P * 65536 ≤ 1048576 := by have := h.hP; omega
  have HL1 := Lib.hid (hL.kept hka h.hB (fun _ e => e.elim))
  have HKA := Lib.hid hka
  clear h h1 hB hxl hL hka
  go_enter Try.func24, Try.ntmps24
  go_wp2_with fail
  refine (wide_any L m c v _ HL1.out.sl hm).mono ?_
  rintro e w2 ⟨g, rfl, hw2, hgl, hk2⟩
  have HG := Lib.hid (show w.heap.size < g from by have h1 := HB.out.lt; simp at h1 hgl; omega)
  have HW2 := Lib.hid hw2
  have hb2 := hk2.blk HB.out (fun x => x)
  have r0 := hb2.cell 0
  have HP2 := Lib.hid (H1.out.kept0 hk2)
  have HK2 := Lib.hid (HKA.out.then0 hk2)
  have HL2 := Lib.hid (HL1.out.kept hk2 H1.out.hB (fun _ e => e.elim))
  have HB2 := Lib.hid hb2
  have HGS := Lib.hid (show ∀ i, SP pb bb rb lr i → i ≠ g from fun i hi e => by have h1 := (H1.out.low i hi).2; simp at h1 hgl; omega)
  clear r7 hw2 hgl hk2 hb2 H1 HKA HL1 HB
  go_wp2_with fail
  clear r0
  have hdd := (Kept.refl S0 w2).drew
  have HK3 := Lib.hid (HK2.out.then0 hdd)
  have HB3 := Lib.hid (hdd.blk HB2.out (fun x => x))
  have HP3 := Lib.hid (HP2.out.kept0 hdd)
  clear hdd HB2 HP2 HK2 HW2 HL2
  generalize hxbe : w.heap.size = xb at HXL HB3 ⊢
  have HXB := Lib.hid hxbe
  clear hxbe
  refine wp_region_R (fun w' => w'.cell? ⟨xb, 1, none⟩ = some (.int .u64 (a : Int)) ∧ w'.cell? ⟨xb, 4, none⟩ = some (.int .i64 s) ∧ w'.cell? ⟨xb, 5, none⟩ = some (.int .u64 (lo : Int)) ∧ w'.cell? ⟨xb, 6, none⟩ = some (.int .u64 (hi : Int))) [] (by kernel_rfl) ?_
  generalize w2.drew = w3 at *
  have hS : w3.cell? ⟨xb, 1, none⟩ = some (.int .u64 (a : Int)) ∧ w3.cell? ⟨xb, 4, none⟩ = some (.int .i64 s) ∧ w3.cell? ⟨xb, 5, none⟩ = some (.int .u64 (lo : Int)) ∧ w3.cell? ⟨xb, 6, none⟩ = some (.int .u64 (hi : Int)) := ⟨HB3.out.cell 1, HB3.out.cell 4, HB3.out.cell 5, HB3.out.cell 6⟩
  refine wpAnyR_take 0 (v := ?_) rfl (by kernel_rfl) (by kernel_rfl) (by kernel_rfl) (by kernel_rfl) (fun _ _ _ h => h) hS ⟨by rfl, ?_⟩ ?_
  rotate_left; (intro w hSw; (try dsimp only at hSw); first | (go_simp; done) | (go_simp; with_reducible rfl))
  simp only [List.getElem_toArray, List.getElem_cons_zero, Act.put, List.setIfInBounds_toArray, List.set_cons_zero, List.set_cons_succ]
  refine wpAnyR_take 1 (v := ?_) rfl (by kernel_rfl) (by kernel_rfl) (by kernel_rfl) (by kernel_rfl) (fun _ _ _ h => h) hS ⟨by rfl, ?_⟩ ?_
  rotate_left; (intro w hSw; (try dsimp only at hSw); first | (go_simp; done) | (go_simp; with_reducible rfl))
  simp only [List.getElem_toArray, List.getElem_cons_zero, List.getElem_cons_succ, Act.put, List.setIfInBounds_toArray, List.set_cons_zero, List.set_cons_succ]
  refine wpAnyR_take 2 (v := ?_) rfl (by kernel_rfl) (by kernel_rfl) (by kernel_rfl) (by kernel_rfl) (fun _ _ _ h => h) hS ⟨by rfl, ?_⟩ ?_
  rotate_left; (intro w hSw; (try dsimp only at hSw); first | (go_simp; done) | (go_simp; with_reducible rfl))
  simp only [List.getElem_toArray, List.getElem_cons_zero, List.getElem_cons_succ, Act.put, List.setIfInBounds_toArray, List.set_cons_zero, List.set_cons_succ]
  refine wpAnyR_take 3 (v := ?_) rfl (by kernel_rfl) (by kernel_rfl) (by kernel_rfl) (by kernel_rfl) (fun _ _ _ h => h) hS ⟨by rfl, ?_⟩ ?_
  rotate_left; (intro w hSw; (try dsimp only at hSw); first | (go_simp; done) | (go_simp; with_reducible rfl))
  simp only [List.getElem_toArray, List.getElem_cons_zero, List.getElem_cons_succ, Act.put, List.setIfInBounds_toArray, List.set_cons_zero, List.set_cons_succ]
  refine wpAnyR_take 4 (v := ?_) rfl (by kernel_rfl) (by kernel_rfl) (by kernel_rfl) (by kernel_rfl) (fun _ _ _ h => h) hS ⟨by rfl, ?_⟩ ?_
  rotate_left; (intro w hSw; (try dsimp only at hSw); first | (go_simp; done) | (go_simp; with_reducible rfl))
  simp only [List.getElem_toArray, List.getElem_cons_zero, List.getElem_cons_succ, Act.put, List.setIfInBounds_toArray, List.set_cons_zero, List.set_cons_succ]
  refine wpAnyR_take 5 (v := ?_) rfl (by kernel_rfl) (by kernel_rfl) (by kernel_rfl) (by kernel_rfl) (fun _ _ _ h => h) hS ⟨by rfl, ?_⟩ ?_
  rotate_left; (intro w hSw; (try dsimp only at hSw); first | (go_simp; done) | (go_simp; with_reducible rfl))
  simp only [List.getElem_toArray, List.getElem_cons_zero, List.getElem_cons_succ, Act.put, List.setIfInBounds_toArray, List.set_cons_zero, List.set_cons_succ]
  refine wpAnyR_take 6 (v := ?_) rfl (by kernel_rfl) (by kernel_rfl) (by kernel_rfl) (by kernel_rfl) (fun _ _ _ h => h) hS ⟨by rfl, ?_⟩ ?_
  rotate_left; (intro w hSw; (try dsimp only at hSw); first | (go_simp; done) | (go_simp; with_reducible rfl))
  simp only [List.getElem_toArray, List.getElem_cons_zero, List.getElem_cons_succ, Act.put, List.setIfInBounds_toArray, List.set_cons_zero, List.set_cons_succ]
  refine wpAnyR_take 8 (v := ?_) rfl (by kernel_rfl) (by kernel_rfl) (by kernel_rfl) (by kernel_rfl) (fun _ _ _ h => h) hS ⟨by rfl, ?_⟩ ?_
  rotate_left; (intro w hSw; (try dsimp only at hSw); first | (go_simp; done) | (go_simp; with_reducible rfl))
  simp only [List.getElem_toArray, List.getElem_cons_zero, List.getElem_cons_succ, Act.put, List.setIfInBounds_toArray, List.set_cons_zero, List.set_cons_succ]
  refine wpAnyR_take 9 (v := ?_) rfl (by kernel_rfl) (by kernel_rfl) (by kernel_rfl) (by kernel_rfl) (fun _ _ _ h => h) hS ⟨by rfl, ?_⟩ ?_
  rotate_left; (intro w hSw; (try dsimp only at hSw); first | (go_simp; done) | (go_simp; with_reducible rfl))
  simp only [List.getElem_toArray, List.getElem_cons_zero, List.getElem_cons_succ, Act.put, List.setIfInBounds_toArray, List.set_cons_zero, List.set_cons_succ]
  refine wpAnyR_take 10 (v := ?_) rfl (by kernel_rfl) (by kernel_rfl) (by kernel_rfl) (by kernel_rfl) (fun _ _ _ h => h) hS ⟨by rfl, ?_⟩ ?_
  rotate_left; (intro w hSw; (try dsimp only at hSw); first | (go_simp; done) | (go_simp; with_reducible rfl))
  simp only [List.getElem_toArray, List.getElem_cons_zero, List.getElem_cons_succ, Act.put, List.setIfInBounds_toArray, List.set_cons_zero, List.set_cons_succ]
  refine wpAnyR_take 11 (v := ?_) rfl (by kernel_rfl) (by kernel_rfl) (by kernel_rfl) (by kernel_rfl) (fun _ _ _ h => h) hS ⟨by rfl, ?_⟩ ?_
  rotate_left; (intro w hSw; (try dsimp only at hSw); first | (go_simp; done) | (go_simp; with_reducible rfl))
  simp only [List.getElem_toArray, List.getElem_cons_zero, List.getElem_cons_succ, Act.put, List.setIfInBounds_toArray, List.set_cons_zero, List.set_cons_succ]
  refine wpAnyR_take 12 (v := ?_) rfl (by kernel_rfl) (by kernel_rfl) (by kernel_rfl) (by kernel_rfl) (fun _ _ _ h => h) hS ⟨by rfl, ?_⟩ ?_
  rotate_left; (intro w hSw; (try dsimp only at hSw); first | (go_simp; done) | (go_simp; with_reducible rfl))
  simp only [List.getElem_toArray, List.getElem_cons_zero, List.getElem_cons_succ, Act.put, List.setIfInBounds_toArray, List.set_cons_zero, List.set_cons_succ]
  refine wpAnyR_take 13 (v := ?_) rfl (by kernel_rfl) (by kernel_rfl) (by kernel_rfl) (by kernel_rfl) (fun _ _ _ h => h) hS ⟨by rfl, ?_⟩ ?_
  rotate_left; (intro w hSw; (try dsimp only at hSw); first | (go_simp; done) | (go_simp; with_reducible rfl))
  simp only [List.getElem_toArray, List.getElem_cons_zero, List.getElem_cons_succ, Act.put, List.setIfInBounds_toArray, List.set_cons_zero, List.set_cons_succ]
  refine wpAnyR_take 14 (v := ?_) rfl (by kernel_rfl) (by kernel_rfl) (by kernel_rfl) (by kernel_rfl) (fun _ _ _ h => h) hS ⟨by rfl, ?_⟩ ?_
  rotate_left; (intro w hSw; (try dsimp only at hSw); first | (go_simp; done) | (go_simp; with_reducible rfl))
  simp only [List.getElem_toArray, List.getElem_cons_zero, List.getElem_cons_succ, Act.put, List.setIfInBounds_toArray, List.set_cons_zero, List.set_cons_succ]
  refine wpAnyR_one 7 rfl (by kernel_rfl) (fun K hK1 => ?_)
  go_simp
  go_at_call 19
  refine (store_is a s lo hi HP3.out.mem hNB _ha).mono ?_
  rintro e w4 ⟨rfl, hm4, hk4⟩
  have hb4 := hk4.blk HB3.out (fun e => HXL.out _ (.inr (.inl rfl)) (Eq.symm e))

  have hS4 : w4.cell? ⟨xb, 1, none⟩ = some (.int .u64 (a : Int)) ∧ w4.cell? ⟨xb, 4, none⟩ = some (.int .i64 s) ∧ w4.cell? ⟨xb, 5, none⟩ = some (.int .u64 (lo : Int)) ∧ w4.cell? ⟨xb, 6, none⟩ = some (.int .u64 (hi : Int)) := ⟨hb4.cell 1, hb4.cell 4, hb4.cell 5, hb4.cell 6⟩
  have HR4 := Lib.hid (HP3.out.ref1 (Kept.s1b hk4))
  have HK4 := Lib.hid hk4
  have HB4 := Lib.hid hb4
  have HM4 := Lib.hid hm4
  refine hK1.out _ _ (fun _ => hS4) ?_
  clear hK1 K hS HB3 hk4 hb4 hm4
  refine wpAnyR_one 15 rfl (by kernel_rfl) (fun K hK2 => ?_)
  go_simp
  go_at_call 36
  refine (rstore_is a s lo hi HR4.out hNB _ha _hlo _hhi).mono ?_
  rintro e w5 ⟨rfl, hm5, hk5⟩
  have hb5 := hk5.blk HB4.out (fun e => HXL.out _ (.inr (.inr (.inr e))) rfl)

  have hS5 : w5.cell? ⟨xb, 1, none⟩ = some (.int .u64 (a : Int)) ∧ w5.cell? ⟨xb, 4, none⟩ = some (.int .i64 s) ∧ w5.cell? ⟨xb, 5, none⟩ = some (.int .u64 (lo : Int)) ∧ w5.cell? ⟨xb, 6, none⟩ = some (.int .u64 (hi : Int)) := ⟨hb5.cell 1, hb5.cell 4, hb5.cell 5, hb5.cell 6⟩
  have HST := Lib.hid (HP3.out.step HM4.out (Kept.s1b HK4.out) (.inl rfl) hm5 (Kept.so_st hk5) (.inl rfl) HP3.out.hP)
  refine hK2.out _ _ (fun _ => hS5) ?_
  clear hK2 K hS4 HK4 HB4 HM4 HR4 hb5 hm5 hk5
  refine wpAnyR_take 16 (v := ?_) rfl (by kernel_rfl) (by kernel_rfl) (by kernel_rfl) (by kernel_rfl) (fun _ _ _ h => h) hS5 ⟨by rfl, ?_⟩ ?_
  rotate_left; (intro w hSw; (try dsimp only at hSw); first | (go_simp; done) | (go_simp; with_reducible rfl))
  simp only [List.getElem_toArray, List.getElem_cons_zero, List.getElem_cons_succ, Act.put, List.setIfInBounds_toArray, List.set_cons_zero, List.set_cons_succ]
  refine wpAnyR_take 17 (v := ?_) rfl (by kernel_rfl) (by kernel_rfl) (by kernel_rfl) (by kernel_rfl) (fun _ _ _ h => h) hS5 ⟨by rfl, ?_⟩ ?_
  rotate_left; (intro w hSw; (try dsimp only at hSw); first | (go_simp; done) | (go_simp; with_reducible rfl))
  simp only [List.getElem_toArray, List.getElem_cons_zero, List.getElem_cons_succ, Act.put, List.setIfInBounds_toArray, List.set_cons_zero, List.set_cons_succ]
  refine wpAnyR_done (by kernel_rfl) ?_ _
  clear hS5
  go_wp2_with fail
  go_ret
  exact ⟨rfl, _, _, _, _, HST.out.1, (HK3.out.of0 _).trans HST.out.2⟩
end
end Go.Proofs.Ytjkndigmoclnoaa
