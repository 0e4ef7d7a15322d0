/- Contracts of the statements' both: Grow, Read. No condition. -/
import Derived.Test.YtjkndigmoclnoaaRMemF
import Derived.Test.YtjkndigmoclnoaaHeldR
namespace Go.Proofs.Ytjkndigmoclnoaa
open Go.RowKit

section
variable {w : World} {B pb bb rb : Nat} {mn mx : Int} {bd : Bool} {lr : Value} {P : Nat} {f : Nat → UInt8}
variable (a fr k : Nat) (s : Int) (lo hi : Nat) (L : Option Addr) (m c : Nat) (v : Nat → UInt8)

set_option maxRecDepth 100000 in
set_option maxHeartbeats 6400000 in
theorem both_grow (d : Int) (g0 : (d == 0) = false) (g1 : (d == 1) = false) (g2 : (d == 2) = false) (g3 : (d == 3) = false) (g4 : (d == 4) = false) (g5 : (d == 5) = false) (g6 : (d == 6) = false) (h : MPair w B pb bb rb mn lr mx bd P f) (_ha : a ≤ 18446744073709551615) (_hf : fr ≤ 18446744073709551615) (_hk : k ≤ 18446744073709551615) (_hlo : lo ≤ 18446744073709551615) (_hhi : hi ≤ 18446744073709551615) (hL : SlB B w L m (byteV v)) (hm : m ≤ 140737488351232) :
    Calls Try.prog 24 #[.pointer (some ⟨pb, 0, none⟩), .pointer (some ⟨rb, 0, none⟩), .agg #[.int .i64 d, .int .u64 (a : Int), .int .u64 (fr : Int), .int .u64 (k : Int), .int .i64 s, .int .u64 (lo : Int), .int .u64 (hi : Int), .slice L m c]] w fun e w' => e = .returned (.bool true) ∧ ∃ bb' lr' P' f', MPair w' B pb bb' rb mn lr' mx bd P' f' ∧ Kept (SB B) w w' := by
  have hka : Kept S0 w (w.alloc (.cells #[.int .i64 d, .int .u64 (a : Int), .int .u64 (fr : Int), .int .u64 (k : Int), .int .i64 s, .int .u64 (lo : Int), .int .u64 (hi : Int), .slice L m c] 62)) := (Kept.refl S0 w).alloc _
  have h1 := h.kept0 hka
  have hB := Blk.new w 62 #[.int .i64 d, .int .u64 (a : Int), .int .u64 (fr : Int), .int .u64 (k : Int), .int .i64 s, .int .u64 (lo : Int), .int .u64 (hi : Int), .slice L m c]
  have r7 := hB.cell 7
  have H1 := Lib.hid h1
  have HB := Lib.hid hB
  have e1 : ∀ z : Int, (z == z) = true := fun z => beq_self_eq_true z
  have hxl : ∀ i, SP pb bb rb lr i → i ≠ w.heap.size := fun i hi => by have := (h.low i hi).2; omega
  have HXL := Lib.hid hxl
  have HBW := Lib.hid h.hB
  have hNB : P * 65536 ≤ 1048576 := by have := h.hP; omega
  have HL1 := Lib.hid (hL.kept hka h.hB (fun _ e => e.elim))
  have HKA := Lib.hid hka
  clear h h1 hB hxl hL hka
  go_enter Try.func24, Try.ntmps24
  go_wp2_with fail
  refine (wide_any L m c v _ HL1.out.sl hm).mono ?_
  rintro e w2 ⟨g, rfl, hw2, hgl, hk2⟩
  have HG := Lib.hid (show w.heap.size < g from by have h1 := HB.out.lt; simp at h1 hgl; omega)
  have HW2 := Lib.hid hw2
  have hb2 := hk2.blk HB.out (fun x => x)
  have r0 := hb2.cell 0
  have HP2 := Lib.hid (H1.out.kept0 hk2)
  have HK2 := Lib.hid (HKA.out.then0 hk2)
  have HL2 := Lib.hid (HL1.out.kept hk2 H1.out.hB (fun _ e => e.elim))
  have HB2 := Lib.hid hb2
  have HGS := Lib.hid (show ∀ i, SP pb bb rb lr i → i ≠ g from fun i hi e => by have h1 := (H1.out.low i hi).2; simp at h1 hgl; omega)
  clear r7 hw2 hgl hk2 hb2 H1 HKA HL1 HB
  have r3 := HB2.out.cell 3
  obtain ⟨kk, hkk⟩ : ∃ kk : Nat, kk = k % 4294967296 := ⟨_, rfl⟩
  have hku : IntKind.u32.wrap (k : Int) = (kk : Int) := by rw [hkk]; simp [IntKind.wrap_u32]
  have hkB : kk ≤ 4294967295 := by omega
  clear hkk
  go_wp2_with fail
  refine (grow_is kk HP2.out.mem HP2.out.hP hkB HP2.out.h3 HP2.out.h4).mono ?_
  rintro e w3 ⟨rfl, b2, hm3, hl3, hk3⟩
  have hb3 := hk3.blk HB2.out (fun e => HXL.out _ (.inl rfl) (Eq.symm e))
  have HR3 := Lib.hid (HP2.out.ref1 (Kept.s1p hk3))
  have HM3 := Lib.hid hm3
  have HK3 := Lib.hid hk3
  have HL3 := Lib.hid hl3
  have HB3 := Lib.hid hb3
  clear r0 r3 hm3 hk3 hl3 hb3
  have t3 := HB3.out.cell 3
  go_wp2_with fail
  refine (rgrow_is kk HR3.out HP2.out.hP (Nat.le_trans HP2.out.hB HK3.out.size) hkB HP2.out.h3 HP2.out.h4).mono ?_
  rintro e w4 ⟨rfl, lj, hm4, hk4, hl4⟩
  have HST := Lib.hid (HP2.out.step HM3.out (Kept.s1p HK3.out) HL3.out hm4 hk4 hl4 (gwP_le HP2.out.hP))
  clear t3 hm4 hk4 hl4
  go_wp2_with fail
  go_ret
  exact ⟨rfl, _, _, _, _, HST.out.1, (HK2.out.of0 _).trans HST.out.2⟩

set_option maxRecDepth 100000 in
set_option maxHeartbeats 6400000 in
theorem both_read_neg (h : MPair w B pb bb rb mn lr mx bd P f) (_ha : a ≤ 18446744073709551615) (_hf : fr ≤ 18446744073709551615) (_hk : k ≤ 18446744073709551615) (_hlo : lo ≤ 18446744073709551615) (_hhi : hi ≤ 18446744073709551615) (hL : SlB B w L m (byteV v)) (hm : m ≤ 140737488351232) (hs : s < 0) :
    Calls Try.prog 24 #[.pointer (some ⟨pb, 0, none⟩), .pointer (some ⟨rb, 0, none⟩), .agg #[.int .i64 2, .int .u64 (a : Int), .int .u64 (fr : Int), .int .u64 (k : Int), .int .i64 s, .int .u64 (lo : Int), .int .u64 (hi : Int), .slice L m c]] w fun e w' => e = .returned (.bool true) ∧ ∃ bb' lr' P' f', MPair w' B pb bb' rb mn lr' mx bd P' f' ∧ Kept (SB B) w w' := by
  have hka : Kept S0 w (w.alloc (.cells #[.int .i64 2, .int .u64 (a : Int), .int .u64 (fr : Int), .int .u64 (k : Int), .int .i64 s, .int .u64 (lo : Int), .int .u64 (hi : Int), .slice L m c] 62)) := (Kept.refl S0 w).alloc _
  have h1 := h.kept0 hka
  have hB := Blk.new w 62 #[.int .i64 2, .int .u64 (a : Int), .int .u64 (fr : Int), .int .u64 (k : Int), .int .i64 s, .int .u64 (lo : Int), .int .u64 (hi : Int), .slice L m c]
  have r7 := hB.cell 7
  have H1 := Lib.hid h1
  have HB := Lib.hid hB
  have e1 : ∀ z : Int, (z == z) = true := fun z => beq_self_eq_true z
  have hxl : ∀ i, SP pb bb rb lr i → i ≠ w.heap.size := fun i hi => by have := (h.low i hi).2; omega
  have HXL := Lib.hid hxl
  have HBW := Lib.hid h.hB
  have hNB : P * 65536 ≤ 1048576 := by have := h.hP; omega
  have HL1 := Lib.hid (hL.kept hka h.hB (fun _ e => e.elim))
  have HKA := Lib.hid hka
  clear h h1 hB hxl hL hka
  go_enter Try.func24, Try.ntmps24
  go_wp2_with fail
  refine (wide_any L m c v _ HL1.out.sl hm).mono ?_
  rintro e w2 ⟨g, rfl, hw2, hgl, hk2⟩
  have HG := Lib.hid (show w.heap.size < g from by have h1 := HB.out.lt; simp at h1 hgl; omega)
  have HW2 := Lib.hid hw2
  have hb2 := hk2.blk HB.out (fun x => x)
  have r0 := hb2.cell 0
  have HP2 := Lib.hid (H1.out.kept0 hk2)
  have HK2 := Lib.hid (HKA.out.then0 hk2)
  have HL2 := Lib.hid (HL1.out.kept hk2 H1.out.hB (fun _ e => e.elim))
  have HB2 := Lib.hid hb2
  have HGS := Lib.hid (show ∀ i, SP pb bb rb lr i → i ≠ g from fun i hi e => by have h1 := (H1.out.low i hi).2; simp at h1 hgl; omega)
  clear r7 hw2 hgl hk2 hb2 H1 HKA HL1 HB
  have r1 := HB2.out.cell 1
  have r4 := HB2.out.cell 4
  go_wp2_with fail
  refine (read_neg a s HP2.out.mem hs).mono ?_
  rintro e w3 ⟨rfl, rfl⟩
  go_wp2_with fail
  go_ret
  exact ⟨rfl, _, _, _, _, HP2.out, HK2.out.of0 _⟩

set_option maxRecDepth 100000 in
set_option maxHeartbeats 6400000 in
theorem both_read_out (h : MPair w B pb bb rb mn lr mx bd P f) (_ha : a ≤ 18446744073709551615) (_hf : fr ≤ 18446744073709551615) (_hk : k ≤ 18446744073709551615) (_hlo : lo ≤ 18446744073709551615) (_hhi : hi ≤ 18446744073709551615) (hL : SlB B w L m (byteV v)) (hm : m ≤ 140737488351232) (n : Nat) (hs : s = (n : Int)) (hn : n ≤ 9223372036854775807) (hin : ¬ (a + n ≤ P * 65536)) :
    Calls Try.prog 24 #[.pointer (some ⟨pb, 0, none⟩), .pointer (some ⟨rb, 0, none⟩), .agg #[.int .i64 2, .int .u64 (a : Int), .int .u64 (fr : Int), .int .u64 (k : Int), .int .i64 s, .int .u64 (lo : Int), .int .u64 (hi : Int), .slice L m c]] w fun e w' => e = .returned (.bool true) ∧ ∃ bb' lr' P' f', MPair w' B pb bb' rb mn lr' mx bd P' f' ∧ Kept (SB B) w w' := by
  subst hs
  have hka : Kept S0 w (w.alloc (.cells #[.int .i64 2, .int .u64 (a : Int), .int .u64 (fr : Int), .int .u64 (k : Int), .int .i64 (n : Int), .int .u64 (lo : Int), .int .u64 (hi : Int), .slice L m c] 62)) := (Kept.refl S0 w).alloc _
  have h1 := h.kept0 hka
  have hB := Blk.new w 62 #[.int .i64 2, .int .u64 (a : Int), .int .u64 (fr : Int), .int .u64 (k : Int), .int .i64 (n : Int), .int .u64 (lo : Int), .int .u64 (hi : Int), .slice L m c]
  have r7 := hB.cell 7
  have H1 := Lib.hid h1
  have HB := Lib.hid hB
  have e1 : ∀ z : Int, (z == z) = true := fun z => beq_self_eq_true z
  have hxl : ∀ i, SP pb bb rb lr i → i ≠ w.heap.size := fun i hi => by have := (h.low i hi).2; omega
  have HXL := Lib.hid hxl
  have HBW := Lib.hid h.hB
  have hNB : P * 65536 ≤ 1048576 := by have := h.hP; omega
  have HL1 := Lib.hid (hL.kept hka h.hB (fun _ e => e.elim))
  have HKA := Lib.hid hka
  clear h h1 hB hxl hL hka
  go_enter Try.func24, Try.ntmps24
  go_wp2_with fail
  refine (wide_any L m c v _ HL1.out.sl hm).mono ?_
  rintro e w2 ⟨g, rfl, hw2, hgl, hk2⟩
  have HG := Lib.hid (show w.heap.size < g from by have h1 := HB.out.lt; simp at h1 hgl; omega)
  have HW2 := Lib.hid hw2
  have hb2 := hk2.blk HB.out (fun x => x)
  have r0 := hb2.cell 0
  have HP2 := Lib.hid (H1.out.kept0 hk2)
  have HK2 := Lib.hid (HKA.out.then0 hk2)
  have HL2 := Lib.hid (HL1.out.kept hk2 H1.out.hB (fun _ e => e.elim))
  have HB2 := Lib.hid hb2
  have HGS := Lib.hid (show ∀ i, SP pb bb rb lr i → i ≠ g from fun i hi e => by have h1 := (H1.out.low i hi).2; simp at h1 hgl; omega)
  clear r7 hw2 hgl hk2 hb2 H1 HKA HL1 HB
  have r1 := HB2.out.cell 1
  have r4 := HB2.out.cell 4
  obtain ⟨rA, rc, hlre, _, _, _⟩ := HP2.out.ref.own.out
  have c3 := HP2.out.ref.c3
  rw [hlre] at c3
  have un : IntKind.u64.wrap (n : Int) = (n : Int) := IntWalk.u64_in _ (by omega)
  have HIN := Lib.hid (show inB (a : Int) (n : Int) ((P : Int) * 65536) = false from by have h := inB_not hin; simpa using h)
  have HIN0 := Lib.hid (inB_not hin)
  have hn0 : (0 : Int) ≤ (n : Int) := by omega
  clear hlre hin
  go_wp2_with fail
  refine (read_out a (n : Int) HP2.out.mem hNB (by omega) hn0 (by omega) (by omega) HIN0.out).mono ?_
  rintro e w3 ⟨rfl, rfl⟩
  go_wp2_with fail
  go_still_tail 10, (by kernel_rfl)
  change wpList _ _ _ _ _ (World.drew _)
  go_wp2_with fail
  refine (rwithin_any _ _ _ _ (by omega) hn0 (by omega) (by omega) (by omega) (by omega)).mono ?_
  rintro e w3 ⟨rfl, rfl⟩
  rw [HIN.out]
  go_wp2_with fail
  go_ret
  exact ⟨rfl, _, _, _, _, HP2.out.kept0 (Kept.refl S0 _).drew, (HK2.out.drew).of0 _⟩

set_option maxRecDepth 100000 in
set_option maxHeartbeats 6400000 in
theorem both_read_in (h : MPair w B pb bb rb mn lr mx bd P f) (_ha : a ≤ 18446744073709551615) (_hf : fr ≤ 18446744073709551615) (_hk : k ≤ 18446744073709551615) (_hlo : lo ≤ 18446744073709551615) (_hhi : hi ≤ 18446744073709551615) (hL : SlB B w L m (byteV v)) (hm : m ≤ 140737488351232) (n : Nat) (hs : s = (n : Int)) (hin : a + n ≤ P * 65536) :
    Calls Try.prog 24 #[.pointer (some ⟨pb, 0, none⟩), .pointer (some ⟨rb, 0, none⟩), .agg #[.int .i64 2, .int .u64 (a : Int), .int .u64 (fr : Int), .int .u64 (k : Int), .int .i64 s, .int .u64 (lo : Int), .int .u64 (hi : Int), .slice L m c]] w fun e w' => e = .returned (.bool true) ∧ ∃ bb' lr' P' f', MPair w' B pb bb' rb mn lr' mx bd P' f' ∧ Kept (SB B) w w' := by
  subst hs
  have hka : Kept S0 w (w.alloc (.cells #[.int .i64 2, .int .u64 (a : Int), .int .u64 (fr : Int), .int .u64 (k : Int), .int .i64 (n : Int), .int .u64 (lo : Int), .int .u64 (hi : Int), .slice L m c] 62)) := (Kept.refl S0 w).alloc _
  have h1 := h.kept0 hka
  have hB := Blk.new w 62 #[.int .i64 2, .int .u64 (a : Int), .int .u64 (fr : Int), .int .u64 (k : Int), .int .i64 (n : Int), .int .u64 (lo : Int), .int .u64 (hi : Int), .slice L m c]
  have r7 := hB.cell 7
  have H1 := Lib.hid h1
  have HB := Lib.hid hB
  have e1 : ∀ z : Int, (z == z) = true := fun z => beq_self_eq_true z
  have hxl : ∀ i, SP pb bb rb lr i → i ≠ w.heap.size := fun i hi => by have := (h.low i hi).2; omega
  have HXL := Lib.hid hxl
  have HBW := Lib.hid h.hB
  have hNB : P * 65536 ≤ 1048576 := by have := h.hP; omega
  have HL1 := Lib.hid (hL.kept hka h.hB (fun _ e => e.elim))
  have HKA := Lib.hid hka
  clear h h1 hB hxl hL hka
  go_enter Try.func24, Try.ntmps24
  go_wp2_with fail
  refine (wide_any L m c v _ HL1.out.sl hm).mono ?_
  rintro e w2 ⟨g, rfl, hw2, hgl, hk2⟩
  have HG := Lib.hid (show w.heap.size < g from by have h1 := HB.out.lt; simp at h1 hgl; omega)
  have HW2 := Lib.hid hw2
  have hb2 := hk2.blk HB.out (fun x => x)
  have r0 := hb2.cell 0
  have HP2 := Lib.hid (H1.out.kept0 hk2)
  have HK2 := Lib.hid (HKA.out.then0 hk2)
  have HL2 := Lib.hid (HL1.out.kept hk2 H1.out.hB (fun _ e => e.elim))
  have HB2 := Lib.hid hb2
  have HGS := Lib.hid (show ∀ i, SP pb bb rb lr i → i ≠ g from fun i hi e => by have h1 := (H1.out.low i hi).2; simp at h1 hgl; omega)
  clear r7 hw2 hgl hk2 hb2 H1 HKA HL1 HB
  have r1 := HB2.out.cell 1
  have r4 := HB2.out.cell 4
  obtain ⟨rA, rc, hlre, hrc, _, hrs⟩ := HP2.out.ref.own.out
  have c3 := HP2.out.ref.c3
  rw [hlre] at c3
  rw [Nat.mul_one] at hrs
  have un : IntKind.u64.wrap (n : Int) = (n : Int) := IntWalk.u64_in _ (by omega)
  have ua : IntKind.u64.wrap ((a : Int) + (n : Int)) = (a : Int) + (n : Int) := IntWalk.u64_in _ (by omega)
  have HIN := Lib.hid (show inB (a : Int) (n : Int) ((P : Int) * 65536) = true from by have h := inB_true hin; simpa using h)
  have hn0 : (0 : Int) ≤ (n : Int) := by omega
  obtain ⟨D2, x2, q2⟩ := run_cutS (P := Try.prog) 36 5 1 Try.underlying36 Try.sizeU8 rA (P * 65536) rc .u64 .u64 (a : Int) ((a : Int) + (n : Int)) a n rfl (by omega) (by omega)
  simp only [Nat.mul_one] at q2
  have hD : Sl w2 D2 n (byteV (fun i => f (a + i))) := by
    have h := Sl.cutS 1 (w := w2) (A := rA) (v := byteV f) (n := P * 65536) (by rw [Nat.mul_one]; exact hrs) (k := a) (m := n) (cap := rc) hin hrc
    simp only [Nat.mul_one] at h
    rw [q2]
    exact h.congr (fun _ _ => rfl)
  have HD := Lib.hid hD.slb
  have hst : sameB n n (fun i => f (a + i)) (fun i => f (a + i)) = true := sameB_true (fun _ _ => rfl)
  have HST := Lib.hid hst
  have HINN := Lib.hid hin
  have hnn : n ≤ 1048576 := by omega
  clear hlre hin hrs q2 hD hst hrc
  go_wp2_with fail
  refine (read_in a n HP2.out.mem hNB HINN.out).mono ?_
  rintro e w3 ⟨gb, gc, rfl, ho3, hk3⟩
  have hdd := hk3.drew
  have HP4 := Lib.hid (HP2.out.kept0 hdd)
  have hb4 := hdd.blk HB2.out (fun x => x)
  have HK4 := Lib.hid (HK2.out.then0 hdd)
  have HO4 := Lib.hid (ho3.kept (Kept.refl S0 w3).drew (fun _ _ x => x))
  have HD4 := Lib.hid (HD.out.kept hdd (Nat.le_refl _) (fun _ e => e.elim)).sl
  have HGB := Lib.hid (show w.heap.size ≤ gb from by have h1 := (ho3.lt gb rfl).1; have h2 := HK2.out.size; omega)
  have HGX := Lib.hid (show ∀ i, SP pb bb rb lr i → i ≠ gb from fun i hi e => by have h1 := (HP2.out.low i hi).2; have h2 := (ho3.lt gb rfl).1; omega)
  have k0 := keep0 hk3 r0
  have k1 := keep0 hk3 r1
  have k4 := keep0 hk3 r4
  have kc := keep0 hk3 c3
  clear hdd ho3 hk3 r0 r1 r4 c3
  go_wp2_with fail
  go_still_tail 10, (by kernel_rfl)
  change wpList _ _ _ _ _ (World.drew _)
  go_wp2_with fail
  refine (rwithin_any _ _ _ _ (by omega) hn0 (by omega) (by omega) (by omega) (by omega)).mono ?_
  rintro e w4 ⟨rfl, rfl⟩
  rw [HIN.out]
  have j1 : w3.drew.cell? ⟨w.heap.size, 1, none⟩ = _ := k1
  have j4 : w3.drew.cell? ⟨w.heap.size, 4, none⟩ = _ := k4
  have jc : w3.drew.cell? ⟨rb, 3, none⟩ = _ := kc
  clear k0 k1 k4 kc
  generalize w3.drew = w5 at *
  go_wp2_with fail
  go_still_tail 17, (by kernel_rfl)
  change wpList _ _ _ _ _ (World.drew _)
  go_wp2_with fail
  have hO6 := HO4.out.kept (Kept.refl S0 w5).drew (fun _ _ x => x)
  have hsl6 : Sl w5.drew (some ⟨gb, 0, none⟩) n (byteV (fun i => f (a + i))) := by
    obtain ⟨_, _, e, _, _, hs⟩ := hO6.out
    cases e
    rw [Nat.mul_one] at hs
    exact hs
  refine (same_any (some ⟨gb, 0, none⟩) D2 n n gc (rc - a) (fun i => f (a + i)) (fun i => f (a + i)) _ hsl6 (HD4.out.slb.kept (Kept.refl S0 w5).drew (Nat.le_refl _) (fun _ e => e.elim)).sl (by omega) (by omega)).mono ?_
  rintro e w6 ⟨rfl, hk6⟩
  rw [HST.out]
  have HK6 := Lib.hid (((Kept.refl S0 w5).drew).then0 hk6)
  have hsp : Calls Try.prog 38 #[.slice (some ⟨gb, 0, none⟩) n gc, .int .u8 5] w6 fun e w' => e = .returned (.tuple #[]) ∧ Kept (S1 gb) w6 w' := spoil_any _ gb n gc 5 _ w6 (hO6.kept hk6 (fun _ _ x => x))
  have HSP := Lib.hid hsp
  clear hO6 hsl6 hk6 hsp j1 j4 jc
  go_wp2_with fail
  refine HSP.out.mono ?_
  rintro e w7 ⟨rfl, hk7⟩
  have HK7 := Lib.hid hk7
  clear hk7
  go_wp2_with fail
  go_ret
  exact ⟨rfl, _, _, _, _, (HP4.out.kept0 HK6.out).away HK7.out (fun i e hs => by have e' : i = gb := e; exact HGX.out i hs e'), ((HK4.out.then0 HK6.out).of0 _).trans (HK7.out.mono (fun i e => by have e' : i = gb := e; have := HGB.out; have := HBW.out; show B ≤ i; omega))⟩
end
end Go.Proofs.Ytjkndigmoclnoaa
