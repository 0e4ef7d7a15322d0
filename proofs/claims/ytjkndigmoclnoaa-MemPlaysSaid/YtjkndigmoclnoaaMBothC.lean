/- Contracts of the statements' both: Write, Init. No condition. -/
import Derived.Test.YtjkndigmoclnoaaRMemF
import Derived.Test.YtjkndigmoclnoaaHeldR
namespace Go.Proofs.Ytjkndigmoclnoaa
open Go.RowKit

section
variable {w : World} {B pb bb rb : Nat} {mn mx : Int} {bd : Bool} {lr : Value} {P : Nat} {f : Nat → UInt8}
variable (a fr k : Nat) (s : Int) (lo hi : Nat) (L : Option Addr) (m c : Nat) (v : Nat → UInt8)

set_option maxRecDepth 100000 in
set_option maxHeartbeats 6400000 in
theorem both_write (h : MPair w B pb bb rb mn lr mx bd P f) (_ha : a ≤ 18446744073709551615) (_hf : fr ≤ 18446744073709551615) (_hk : k ≤ 18446744073709551615) (_hlo : lo ≤ 18446744073709551615) (_hhi : hi ≤ 18446744073709551615) (hL : SlB B w L m (byteV v)) (hm : m ≤ 140737488351232) :
    Calls Try.prog 24 #[.pointer (some ⟨pb, 0, none⟩), .pointer (some ⟨rb, 0, none⟩), .agg #[.int .i64 3, .int .u64 (a : Int), .int .u64 (fr : Int), .int .u64 (k : Int), .int .i64 s, .int .u64 (lo : Int), .int .u64 (hi : Int), .slice L m c]] w fun e w' => e = .returned (.bool true) ∧ ∃ bb' lr' P' f', MPair w' B pb bb' rb mn lr' mx bd P' f' ∧ Kept (SB B) w w' := by
  have hka : Kept S0 w (w.alloc (.cells #[.int .i64 3, .int .u64 (a : Int), .int .u64 (fr : Int), .int .u64 (k : Int), .int .i64 s, .int .u64 (lo : Int), .int .u64 (hi : Int), .slice L m c] 62)) := (Kept.refl S0 w).alloc _
  have h1 := h.kept0 hka
  have hB := Blk.new w 62 #[.int .i64 3, .int .u64 (a : Int), .int .u64 (fr : Int), .int .u64 (k : Int), .int .i64 s, .int .u64 (lo : Int), .int .u64 (hi : Int), .slice L m c]
  have r7 := hB.cell 7
  have H1 := Lib.hid h1
  have HB := Lib.hid hB
  have e1 : ∀ z : Int, (z == z) = true := fun z => beq_self_eq_true z
  have hxl : ∀ i, SP pb bb rb lr i → i ≠ w.heap.size := fun i hi => by have := (h.low i hi).2; omega
  have HXL := Lib.hid hxl
  have HBW := Lib.hid h.hB
  have hNB : P * 65536 ≤ 1048576 := by have := h.hP; omega
  have HL1 := Lib.hid (hL.kept hka h.hB (fun _ e => e.elim))
  have HKA := Lib.hid hka
  clear h h1 hB hxl hL hka
  go_enter Try.func24, Try.ntmps24
  go_wp2_with fail
  refine (wide_any L m c v _ HL1.out.sl hm).mono ?_
  rintro e w2 ⟨g, rfl, hw2, hgl, hk2⟩
  have HG := Lib.hid (show w.heap.size < g from by have h1 := HB.out.lt; simp at h1 hgl; omega)
  have HW2 := Lib.hid hw2
  have hb2 := hk2.blk HB.out (fun x => x)
  have r0 := hb2.cell 0
  have HP2 := Lib.hid (H1.out.kept0 hk2)
  have HK2 := Lib.hid (HKA.out.then0 hk2)
  have HL2 := Lib.hid (HL1.out.kept hk2 H1.out.hB (fun _ e => e.elim))
  have HB2 := Lib.hid hb2
  have HGS := Lib.hid (show ∀ i, SP pb bb rb lr i → i ≠ g from fun i hi e => by have h1 := (H1.out.low i hi).2; simp at h1 hgl; omega)
  clear r7 hw2 hgl hk2 hb2 H1 HKA HL1 HB
  have r1 := HB2.out.cell 1
  have um : IntKind.u64.wrap (m : Int) = (m : Int) := IntWalk.u64_in _ (by omega)
  go_wp2_with fail
  refine (write_is a (some ⟨g, 0, none⟩) m (m + 3) v HP2.out.mem hNB HW2.out.sl hm _ha).mono ?_
  rintro e w3 ⟨rfl, hm3, hk3⟩
  have hb3 := hk3.blk HB2.out (fun e => HXL.out _ (.inr (.inl rfl)) (Eq.symm e))
  have HR3 := Lib.hid (HP2.out.ref1 (Kept.s1b hk3))
  have HM3 := Lib.hid hm3
  have HK3 := Lib.hid hk3
  have HB3 := Lib.hid hb3
  have HW3 := Lib.hid (HW2.out.kept hk3 (fun e => HGS.out _ (.inr (.inl rfl)) (Eq.symm e)))
  have HL3 := Lib.hid (HL2.out.kept hk3 HP2.out.hB (fun i e => by have e' : i = bb := e; rw [e']; exact HP2.out.lo2))
  clear r0 r1 hm3 hk3 hb3
  have t1 := HB3.out.cell 1
  have t7 := HB3.out.cell 7
  go_wp2_with fail
  refine (rput_is a 0 m L m c v HR3.out hNB HL3.out.sl hm _ha (by omega) (by omega)).mono ?_
  rintro e w4 ⟨rfl, hm4, hk4⟩
  have hb4 := hk4.blk HB3.out (fun e => HXL.out _ (.inr (.inr (.inr e))) rfl)
  have z7 := hb4.cell 7
  have HST := Lib.hid (HP2.out.step HM3.out (Kept.s1b HK3.out) (.inl rfl) hm4 (Kept.so_st hk4) (.inl rfl) HP2.out.hP)
  have HW4 := Lib.hid (HW3.out.kept hk4 (fun e => HGS.out _ (.inr (.inr (.inr e))) rfl))
  have HL4 := Lib.hid (HL3.out.kept hk4 (Nat.le_trans HP2.out.hB HK3.out.size) (fun i e => (HP2.out.ref.own.lt i e).1))
  clear t1 t7 hm4 hk4 hb4 HB3 HW3 HL3 HM3 HR3
  go_wp2_with fail
  refine (left_any g m L c v _ HW4.out HL4.out.sl hm).mono ?_
  rintro e w5 ⟨rfl, hk5⟩
  have HK5 := Lib.hid hk5
  clear z7 hk5
  go_wp2_with fail
  go_ret
  exact ⟨rfl, _, _, _, _, HST.out.1.kept0 HK5.out, ((HK2.out.of0 _).trans HST.out.2).then0 HK5.out⟩

set_option maxRecDepth 100000 in
set_option maxHeartbeats 6400000 in
theorem both_init (h : MPair w B pb bb rb mn lr mx bd P f) (_ha : a ≤ 18446744073709551615) (_hf : fr ≤ 18446744073709551615) (_hk : k ≤ 18446744073709551615) (_hlo : lo ≤ 18446744073709551615) (_hhi : hi ≤ 18446744073709551615) (hL : SlB B w L m (byteV v)) (hm : m ≤ 140737488351232) :
    Calls Try.prog 24 #[.pointer (some ⟨pb, 0, none⟩), .pointer (some ⟨rb, 0, none⟩), .agg #[.int .i64 6, .int .u64 (a : Int), .int .u64 (fr : Int), .int .u64 (k : Int), .int .i64 s, .int .u64 (lo : Int), .int .u64 (hi : Int), .slice L m c]] w fun e w' => e = .returned (.bool true) ∧ ∃ bb' lr' P' f', MPair w' B pb bb' rb mn lr' mx bd P' f' ∧ Kept (SB B) w w' := by
  have hka : Kept S0 w (w.alloc (.cells #[.int .i64 6, .int .u64 (a : Int), .int .u64 (fr : Int), .int .u64 (k : Int), .int .i64 s, .int .u64 (lo : Int), .int .u64 (hi : Int), .slice L m c] 62)) := (Kept.refl S0 w).alloc _
  have h1 := h.kept0 hka
  have hB := Blk.new w 62 #[.int .i64 6, .int .u64 (a : Int), .int .u64 (fr : Int), .int .u64 (k : Int), .int .i64 s, .int .u64 (lo : Int), .int .u64 (hi : Int), .slice L m c]
  have r7 := hB.cell 7
  have H1 := Lib.hid h1
  have HB := Lib.hid hB
  have e1 : ∀ z : Int, (z == z) = true := fun z => beq_self_eq_true z
  have hxl : ∀ i, SP pb bb rb lr i → i ≠ w.heap.size := fun i hi => by have := (h.low i hi).2; omega
  have HXL := Lib.hid hxl
  have HBW := Lib.hid h.hB
  have hNB : P * 65536 ≤ 1048576 := by have := h.hP; omega
  have HL1 := Lib.hid (hL.kept hka h.hB (fun _ e => e.elim))
  have HKA := Lib.hid hka
  clear h h1 hB hxl hL hka
  go_enter Try.func24, Try.ntmps24
  go_wp2_with fail
  refine (wide_any L m c v _ HL1.out.sl hm).mono ?_
  rintro e w2 ⟨g, rfl, hw2, hgl, hk2⟩
  have HG := Lib.hid (show w.heap.size < g from by have h1 := HB.out.lt; simp at h1 hgl; omega)
  have HW2 := Lib.hid hw2
  have hb2 := hk2.blk HB.out (fun x => x)
  have r0 := hb2.cell 0
  have HP2 := Lib.hid (H1.out.kept0 hk2)
  have HK2 := Lib.hid (HKA.out.then0 hk2)
  have HL2 := Lib.hid (HL1.out.kept hk2 H1.out.hB (fun _ e => e.elim))
  have HB2 := Lib.hid hb2
  have HGS := Lib.hid (show ∀ i, SP pb bb rb lr i → i ≠ g from fun i hi e => by have h1 := (H1.out.low i hi).2; simp at h1 hgl; omega)
  clear r7 hw2 hgl hk2 hb2 H1 HKA HL1 HB
  have r1 := HB2.out.cell 1
  have r2 := HB2.out.cell 2
  have r3 := HB2.out.cell 3
  have um : IntKind.u64.wrap (m : Int) = (m : Int) := IntWalk.u64_in _ (by omega)
  go_wp2_with fail
  refine (init_is a fr k (some ⟨g, 0, none⟩) m (m + 3) v HP2.out.mem hNB HW2.out.sl hm (by omega) _ha _hf _hk).mono ?_
  rintro e w3 ⟨rfl, hm3, hk3⟩
  have hb3 := hk3.blk HB2.out (fun e => HXL.out _ (.inr (.inl rfl)) (Eq.symm e))
  have HR3 := Lib.hid (HP2.out.ref1 (Kept.s1b hk3))
  have HM3 := Lib.hid hm3
  have HK3 := Lib.hid hk3
  have HB3 := Lib.hid hb3
  have HW3 := Lib.hid (HW2.out.kept hk3 (fun e => HGS.out _ (.inr (.inl rfl)) (Eq.symm e)))
  have HL3 := Lib.hid (HL2.out.kept hk3 HP2.out.hB (fun i e => by have e' : i = bb := e; rw [e']; exact HP2.out.lo2))
  clear r0 r1 r2 r3 hm3 hk3 hb3
  have t1 := HB3.out.cell 1
  have t2 := HB3.out.cell 2
  have t3 := HB3.out.cell 3
  have t7 := HB3.out.cell 7
  go_wp2_with fail
  refine (rput_is a fr k L m c v HR3.out hNB HL3.out.sl hm _ha _hf _hk).mono ?_
  rintro e w4 ⟨rfl, hm4, hk4⟩
  have hb4 := hk4.blk HB3.out (fun e => HXL.out _ (.inr (.inr (.inr e))) rfl)
  have z7 := hb4.cell 7
  have HST := Lib.hid (HP2.out.step HM3.out (Kept.s1b HK3.out) (.inl rfl) hm4 (Kept.so_st hk4) (.inl rfl) HP2.out.hP)
  have HW4 := Lib.hid (HW3.out.kept hk4 (fun e => HGS.out _ (.inr (.inr (.inr e))) rfl))
  have HL4 := Lib.hid (HL3.out.kept hk4 (Nat.le_trans HP2.out.hB HK3.out.size) (fun i e => (HP2.out.ref.own.lt i e).1))
  clear t1 t2 t3 t7 hm4 hk4 hb4 HB3 HW3 HL3 HM3 HR3
  go_wp2_with fail
  refine (left_any g m L c v _ HW4.out HL4.out.sl hm).mono ?_
  rintro e w5 ⟨rfl, hk5⟩
  have HK5 := Lib.hid hk5
  clear z7 hk5
  go_wp2_with fail
  go_ret
  exact ⟨rfl, _, _, _, _, HST.out.1.kept0 HK5.out, ((HK2.out.of0 _).trans HST.out.2).then0 HK5.out⟩
end
end Go.Proofs.Ytjkndigmoclnoaa
