/- The walk of the statement StoreNil. No condition. -/
import Derived.Test.YtlnkdnmeikpckaaStN
import Derived.Deep.DeepCutAuto
import Derived.Test.YtlnkdnmeikpckaaArrEq
namespace Go.Proofs.Ytlnkdnmeikpckaa
open Go.RowKit

theorem ones18 (k : Nat) (h : k < 18) : (#[.int .i64 1, .int .i64 1, .int .i64 1, .int .i64 1, .int .i64 1, .int .i64 1, .int .i64 1, .int .i64 1, .int .i64 1, .int .i64 1, .int .i64 1, .int .i64 1, .int .i64 1, .int .i64 1, .int .i64 1, .int .i64 1, .int .i64 1, .int .i64 1] : Array Value)[k]? = some (.int .i64 1) := by
  match k, h with
  | 0, _ => rfl
  | 1, _ => rfl
  | 2, _ => rfl
  | 3, _ => rfl
  | 4, _ => rfl
  | 5, _ => rfl
  | 6, _ => rfl
  | 7, _ => rfl
  | 8, _ => rfl
  | 9, _ => rfl
  | 10, _ => rfl
  | 11, _ => rfl
  | 12, _ => rfl
  | 13, _ => rfl
  | 14, _ => rfl
  | 15, _ => rfl
  | 16, _ => rfl
  | 17, _ => rfl
  | k + 18, h => exact absurd h (by omega)

theorem zeros_eq (w : World) : (Op.equalIn 10000 120 (.agg #[.int .i64 0, .int .i64 0, .int .i64 0, .int .i64 0, .int .i64 0, .int .i64 0, .int .i64 0]) (.agg #[.int .i64 0, .int .i64 0, .int .i64 0, .int .i64 0, .int .i64 0, .int .i64 0, .int .i64 0])).run Try.prog w = .ok true w :=
  run_equalIn_ints w 9998 120 3 .i64 7 Try.underlying120 Try.underlying3 (fun w => by
    obtain ⟨i, hi, hz⟩ := Option.map_eq_some_iff.1 (show (Try.prog.info? 3).map (·.size) = some 1 from by kernel_rfl)
    simp [sizeOf, typeInfo, hi, hz]) [0, 0, 0, 0, 0, 0, 0] [0, 0, 0, 0, 0, 0, 0] rfl rfl

set_option maxHeartbeats 6400000 in
set_option maxRecDepth 100000 in
theorem nil_any (d : Int) (a : Int) (n : Int) (fpA : Option Addr) (fpn fpc : Nat) (frA : Option Addr) (frn frc : Nat) (fh : Bool) (fs : ByteArray) (fi : Int) (fb : Int) (te : Int) (tm : Int) (tx : Int) (tb : Bool) (lm : Int) (lx : Int) (lb : Bool) (gv : Int) (gm : Bool) (t : Int) (lo : Int) (hi : Int) (lA : Option Addr) (ln lc : Nat) (bA : Option Addr) (bn bc : Nat) (i0A : Option Addr) (i0n i0c : Nat) (i1A : Option Addr) (i1n i1c : Nat) (i2A : Option Addr) (i2n i2c : Nat) (i3A : Option Addr) (i3n i3c : Nat) (i4A : Option Addr) (i4n i4c : Nat) (i5A : Option Addr) (i5n i5c : Nat) (i6A : Option Addr) (i6n i6c : Nat) (i7A : Option Addr) (i7n i7c : Nat) (i8A : Option Addr) (i8n i8c : Nat) (zero : Bool) (w : World) :
    Calls Try.prog 5 #[.agg #[.int .i64 d, .int .i64 a, .int .u32 n, .slice fpA fpn fpc, .slice frA frn frc, .bool fh, .string fs, .int .i64 fi, .int .i64 fb, .int .u8 te, .int .u32 tm, .int .u32 tx, .bool tb, .int .u32 lm, .int .u32 lx, .bool lb, .int .u8 gv, .bool gm, .int .u8 t, .int .u64 lo, .int .u64 hi, .slice lA ln lc, .slice bA bn bc, .slice i0A i0n i0c, .slice i1A i1n i1c, .slice i2A i2n i2c, .slice i3A i3n i3c, .slice i4A i4n i4c, .slice i5A i5n i5c, .slice i6A i6n i6c, .slice i7A i7n i7c, .slice i8A i8n i8c], .bool zero] w fun e w' => e = .returned (.bool true) ∧ Kept S0 w w' := by
  have hB := Blk.new w 72 #[.int .i64 d, .int .i64 a, .int .u32 n, .slice fpA fpn fpc, .slice frA frn frc, .bool fh, .string fs, .int .i64 fi, .int .i64 fb, .int .u8 te, .int .u32 tm, .int .u32 tx, .bool tb, .int .u32 lm, .int .u32 lx, .bool lb, .int .u8 gv, .bool gm, .int .u8 t, .int .u64 lo, .int .u64 hi, .slice lA ln lc, .slice bA bn bc, .slice i0A i0n i0c, .slice i1A i1n i1c, .slice i2A i2n i2c, .slice i3A i3n i3c, .slice i4A i4n i4c, .slice i5A i5n i5c, .slice i6A i6n i6c, .slice i7A i7n i7c, .slice i8A i8n i8c]
  have hk0 : Kept S0 w (w.alloc (.cells #[.int .i64 d, .int .i64 a, .int .u32 n, .slice fpA fpn fpc, .slice frA frn frc, .bool fh, .string fs, .int .i64 fi, .int .i64 fb, .int .u8 te, .int .u32 tm, .int .u32 tx, .bool tb, .int .u32 lm, .int .u32 lx, .bool lb, .int .u8 gv, .bool gm, .int .u8 t, .int .u64 lo, .int .u64 hi, .slice lA ln lc, .slice bA bn bc, .slice i0A i0n i0c, .slice i1A i1n i1c, .slice i2A i2n i2c, .slice i3A i3n i3c, .slice i4A i4n i4c, .slice i5A i5n i5c, .slice i6A i6n i6c, .slice i7A i7n i7c, .slice i8A i8n i8c] 72)) := (Kept.refl S0 w).alloc _
  have HB0 := Lib.hid hB
  have HK0 := Lib.hid hk0
  clear hB hk0
  go_enter Try.func5, Try.ntmps5
  go_upto_if 39 with (fail)
  go_cut [5] (fun t5 wx => ∃ p, t5 = .pointer p ∧ NoStore wx p ∧ Blk wx w.heap.size 72 #[.int .i64 d, .int .i64 a, .int .u32 n, .slice fpA fpn fpc, .slice frA frn frc, .bool fh, .string fs, .int .i64 fi, .int .i64 fb, .int .u8 te, .int .u32 tm, .int .u32 tx, .bool tb, .int .u32 lm, .int .u32 lx, .bool lb, .int .u8 gv, .bool gm, .int .u8 t, .int .u64 lo, .int .u64 hi, .slice lA ln lc, .slice bA bn bc, .slice i0A i0n i0c, .slice i1A i1n i1c, .slice i2A i2n i2c, .slice i3A i3n i3c, .slice i4A i4n i4c, .slice i5A i5n i5c, .slice i6A i6n i6c, .slice i7A i7n i7c, .slice i8A i8n i8c] ∧ Kept S0 w wx)
  case first =>
    cases zero with
    | true =>
      go_wp2
      go_meet
      exact ⟨_, rfl, ⟨.inr ⟨_, rfl, (Blk.new1 w _ _ _).cell 0⟩⟩, HB0.out.alloc _, HK0.out.alloc _⟩
    | false =>
      go_wp2
      go_meet
      exact ⟨_, rfl, ⟨.inl rfl⟩, HB0.out, HK0.out⟩
  case rest =>
    obtain ⟨p, rfl, hp, hB, hk⟩ := hcut
    have HP := Lib.hid hp
    have HB := Lib.hid hB
    have HK := Lib.hid hk
    clear hp hB hk HB0 HK0
    generalize hbx : w.heap.size = bx at *
    have q3 := HB.out.cell 3
    have q4 := HB.out.cell 4
    have q5 := HB.out.cell 5
    have q6 := HB.out.cell 6
    have q7 := HB.out.cell 7
    have q8 := HB.out.cell 8
    go_wp2_with fail
    refine (addfunc_none fpA fpn fpc frA frn frc fh fs fi fb HP.out).mono ?_
    rintro e w1 ⟨rfl, hk⟩
    clear q3 q4 q5 q6 q7 q8
    have hk' : Kept S0 _ w1 := hk
    replace HP := Lib.hid (HP.out.kept hk')
    replace HB := Lib.hid (hk'.blk HB.out (fun x => x))
    replace HK := Lib.hid (HK.out.then0 hk')
    clear hk hk'
    have q9 : w1.cell? ⟨bx, 9, none⟩ = some (.int .u8 te) := HB.out.cell 9
    have q10 : w1.cell? ⟨bx, 10, none⟩ = some (.int .u32 tm) := HB.out.cell 10
    have q11 : w1.cell? ⟨bx, 11, none⟩ = some (.int .u32 tx) := HB.out.cell 11
    have q12 : w1.cell? ⟨bx, 12, none⟩ = some (.bool tb) := HB.out.cell 12
    have q18 : w1.cell? ⟨bx, 18, none⟩ = some (.int .u8 t) := HB.out.cell 18
    have q19 : w1.cell? ⟨bx, 19, none⟩ = some (.int .u64 lo) := HB.out.cell 19
    have q20 : w1.cell? ⟨bx, 20, none⟩ = some (.int .u64 hi) := HB.out.cell 20
    go_wp2_with fail
    refine (addtable_none te tm tx tb t lo hi HP.out).mono ?_
    rintro e w2 ⟨rfl, hk⟩
    clear q9 q10 q11 q12 q18 q19 q20
    have hk' : Kept S0 _ w2 := hk
    replace HP := Lib.hid (HP.out.kept hk')
    replace HB := Lib.hid (hk'.blk HB.out (fun x => x))
    replace HK := Lib.hid (HK.out.then0 hk')
    clear hk hk'
    have q13 : w2.cell? ⟨bx, 13, none⟩ = some (.int .u32 lm) := HB.out.cell 13
    have q14 : w2.cell? ⟨bx, 14, none⟩ = some (.int .u32 lx) := HB.out.cell 14
    have q15 : w2.cell? ⟨bx, 15, none⟩ = some (.bool lb) := HB.out.cell 15
    go_wp2_with fail
    refine (addmem_none lm lx lb HP.out).mono ?_
    rintro e w3 ⟨rfl, hk⟩
    clear q13 q14 q15
    have hk' : Kept S0 _ w3 := hk
    replace HP := Lib.hid (HP.out.kept hk')
    replace HB := Lib.hid (hk'.blk HB.out (fun x => x))
    replace HK := Lib.hid (HK.out.then0 hk')
    clear hk hk'
    have q16 : w3.cell? ⟨bx, 16, none⟩ = some (.int .u8 gv) := HB.out.cell 16
    have q17 : w3.cell? ⟨bx, 17, none⟩ = some (.bool gm) := HB.out.cell 17
    have q18 : w3.cell? ⟨bx, 18, none⟩ = some (.int .u8 t) := HB.out.cell 18
    have q19 : w3.cell? ⟨bx, 19, none⟩ = some (.int .u64 lo) := HB.out.cell 19
    have q20 : w3.cell? ⟨bx, 20, none⟩ = some (.int .u64 hi) := HB.out.cell 20
    go_wp2_with fail
    refine (addglobal_none gv gm t lo hi HP.out).mono ?_
    rintro e w4 ⟨rfl, hk⟩
    clear q16 q17 q18 q19 q20
    have hk' : Kept S0 _ w4 := hk
    replace HP := Lib.hid (HP.out.kept hk')
    replace HB := Lib.hid (hk'.blk HB.out (fun x => x))
    replace HK := Lib.hid (HK.out.then0 hk')
    clear hk hk'
    have q18 : w4.cell? ⟨bx, 18, none⟩ = some (.int .u8 t) := HB.out.cell 18
    have q21 : w4.cell? ⟨bx, 21, none⟩ = some (.slice lA ln lc) := HB.out.cell 21
    go_wp2_with fail
    refine (addelem_none t lA ln lc HP.out).mono ?_
    rintro e w5 ⟨rfl, hk⟩
    clear q18 q21
    have hk' : Kept S0 _ w5 := hk
    replace HP := Lib.hid (HP.out.kept hk')
    replace HB := Lib.hid (hk'.blk HB.out (fun x => x))
    replace HK := Lib.hid (HK.out.then0 hk')
    clear hk hk'
    have q22 : w5.cell? ⟨bx, 22, none⟩ = some (.slice bA bn bc) := HB.out.cell 22
    go_wp2_with fail
    refine (adddata_none bA bn bc HP.out).mono ?_
    rintro e w6 ⟨rfl, hk⟩
    clear q22
    have hk' : Kept S0 _ w6 := hk
    replace HP := Lib.hid (HP.out.kept hk')
    replace HB := Lib.hid (hk'.blk HB.out (fun x => x))
    replace HK := Lib.hid (HK.out.then0 hk')
    clear hk hk'
    have q23 : w6.cell? ⟨bx, 23, none⟩ = some (.slice i0A i0n i0c) := HB.out.cell 23
    have q24 : w6.cell? ⟨bx, 24, none⟩ = some (.slice i1A i1n i1c) := HB.out.cell 24
    have q25 : w6.cell? ⟨bx, 25, none⟩ = some (.slice i2A i2n i2c) := HB.out.cell 25
    have q26 : w6.cell? ⟨bx, 26, none⟩ = some (.slice i3A i3n i3c) := HB.out.cell 26
    have q27 : w6.cell? ⟨bx, 27, none⟩ = some (.slice i4A i4n i4c) := HB.out.cell 27
    have q28 : w6.cell? ⟨bx, 28, none⟩ = some (.slice i5A i5n i5c) := HB.out.cell 28
    have q29 : w6.cell? ⟨bx, 29, none⟩ = some (.slice i6A i6n i6c) := HB.out.cell 29
    have q30 : w6.cell? ⟨bx, 30, none⟩ = some (.slice i7A i7n i7c) := HB.out.cell 30
    have q31 : w6.cell? ⟨bx, 31, none⟩ = some (.slice i8A i8n i8c) := HB.out.cell 31
    go_wp2_with fail
    refine (addinst_none i0A i0n i0c i1A i1n i1c i2A i2n i2c i3A i3n i3c i4A i4n i4c i5A i5n i5c i6A i6n i6c i7A i7n i7c i8A i8n i8c HP.out).mono ?_
    rintro e w7 ⟨rfl, hk⟩
    clear q23 q24 q25 q26 q27 q28 q29 q30 q31
    have hk' : Kept S0 _ w7 := hk
    replace HP := Lib.hid (HP.out.kept hk')
    replace HB := Lib.hid (hk'.blk HB.out (fun x => x))
    replace HK := Lib.hid (HK.out.then0 hk')
    clear hk hk'
    have q1 : w7.cell? ⟨bx, 1, none⟩ = some (.int .i64 a) := HB.out.cell 1
    go_wp2_with fail
    refine (func_none a HP.out).mono ?_
    rintro e w8 ⟨rfl, hk⟩
    clear q1
    have hk' : Kept S0 _ (w8.alloc (.cells #[.slice none 0 0, .slice none 0 0, .bool false, .string { data := #[] }, .int .i64 0, .int .i64 0] 36)) := (hk.alloc _)
    replace HP := Lib.hid (HP.out.kept hk')
    replace HB := Lib.hid (hk'.blk HB.out (fun x => x))
    replace HK := Lib.hid (HK.out.then0 hk')
    clear hk hk'
    have q1 : (w8.alloc (.cells #[.slice none 0 0, .slice none 0 0, .bool false, .string { data := #[] }, .int .i64 0, .int .i64 0] 36)).cell? ⟨bx, 1, none⟩ = some (.int .i64 a) := HB.out.cell 1
    go_wp2_with fail
    generalize (w8.alloc (.cells #[.slice none 0 0, .slice none 0 0, .bool false, .string { data := #[] }, .int .i64 0, .int .i64 0] 36)) = w8z at *
    refine (table_none a HP.out).mono ?_
    rintro e w9 ⟨rfl, hk⟩
    clear q1
    have hk' : Kept S0 _ w9 := hk
    replace HP := Lib.hid (HP.out.kept hk')
    replace HB := Lib.hid (hk'.blk HB.out (fun x => x))
    replace HK := Lib.hid (HK.out.then0 hk')
    clear hk hk'
    have q1 : w9.cell? ⟨bx, 1, none⟩ = some (.int .i64 a) := HB.out.cell 1
    go_wp2_with fail
    refine (mem_none a HP.out).mono ?_
    rintro e w10 ⟨rfl, hk⟩
    clear q1
    have hk' : Kept S0 _ w10 := hk
    replace HP := Lib.hid (HP.out.kept hk')
    replace HB := Lib.hid (hk'.blk HB.out (fun x => x))
    replace HK := Lib.hid (HK.out.then0 hk')
    clear hk hk'
    have q1 : w10.cell? ⟨bx, 1, none⟩ = some (.int .i64 a) := HB.out.cell 1
    go_wp2_with fail
    refine (global_none a HP.out).mono ?_
    rintro e w11 ⟨rfl, hk⟩
    clear q1
    have hk' : Kept S0 _ ((w11.alloc (.cells #[.int .u8 0, .bool false] 64)).alloc (.cells #[.int .u8 0, .int .u64 0, .int .u64 0] 40)) := ((hk.alloc _).alloc _)
    replace HP := Lib.hid (HP.out.kept hk')
    replace HB := Lib.hid (hk'.blk HB.out (fun x => x))
    replace HK := Lib.hid (HK.out.then0 hk')
    clear hk hk'
    have q1 : ((w11.alloc (.cells #[.int .u8 0, .bool false] 64)).alloc (.cells #[.int .u8 0, .int .u64 0, .int .u64 0] 40)).cell? ⟨bx, 1, none⟩ = some (.int .i64 a) := HB.out.cell 1
    go_wp2_with fail
    generalize ((w11.alloc (.cells #[.int .u8 0, .bool false] 64)).alloc (.cells #[.int .u8 0, .int .u64 0, .int .u64 0] 40)) = w11z at *
    refine (elem_none a HP.out).mono ?_
    rintro e w12 ⟨rfl, hk⟩
    clear q1
    have hk' : Kept S0 _ w12 := hk
    replace HP := Lib.hid (HP.out.kept hk')
    replace HB := Lib.hid (hk'.blk HB.out (fun x => x))
    replace HK := Lib.hid (HK.out.then0 hk')
    clear hk hk'
    have q1 : w12.cell? ⟨bx, 1, none⟩ = some (.int .i64 a) := HB.out.cell 1
    go_wp2_with fail
    refine (data_none a HP.out).mono ?_
    rintro e w13 ⟨rfl, hk⟩
    clear q1
    have hk' : Kept S0 _ w13 := hk
    replace HP := Lib.hid (HP.out.kept hk')
    replace HB := Lib.hid (hk'.blk HB.out (fun x => x))
    replace HK := Lib.hid (HK.out.then0 hk')
    clear hk hk'
    have q1 : w13.cell? ⟨bx, 1, none⟩ = some (.int .i64 a) := HB.out.cell 1
    go_wp2_with fail
    refine (inst_none a HP.out).mono ?_
    rintro e w14 ⟨rfl, hk⟩
    clear q1
    have hk' : Kept S0 _ w14 := hk
    replace HP := Lib.hid (HP.out.kept hk')
    replace HB := Lib.hid (hk'.blk HB.out (fun x => x))
    replace HK := Lib.hid (HK.out.then0 hk')
    clear hk hk'
    have q3 : w14.cell? ⟨bx, 3, none⟩ = some (.slice fpA fpn fpc) := HB.out.cell 3
    have q4 : w14.cell? ⟨bx, 4, none⟩ = some (.slice frA frn frc) := HB.out.cell 4
    go_wp2_with fail
    refine (host_none _ fpA fpn fpc frA frn frc HP.out).mono ?_
    rintro e w15 ⟨rfl, hk⟩
    clear q3 q4
    have hk' : Kept S0 _ w15 := hk
    replace HP := Lib.hid (HP.out.kept hk')
    replace HB := Lib.hid (hk'.blk HB.out (fun x => x))
    replace HK := Lib.hid (HK.out.then0 hk')
    clear hk hk'
    have q1 : w15.cell? ⟨bx, 1, none⟩ = some (.int .i64 a) := HB.out.cell 1
    have q3 : w15.cell? ⟨bx, 3, none⟩ = some (.slice fpA fpn fpc) := HB.out.cell 3
    have q4 : w15.cell? ⟨bx, 4, none⟩ = some (.slice frA frn frc) := HB.out.cell 4
    have q18 : w15.cell? ⟨bx, 18, none⟩ = some (.int .u8 t) := HB.out.cell 18
    have q19 : w15.cell? ⟨bx, 19, none⟩ = some (.int .u64 lo) := HB.out.cell 19
    have q20 : w15.cell? ⟨bx, 20, none⟩ = some (.int .u64 hi) := HB.out.cell 20
    go_wp2_with fail
    refine wp_region_R (fun w' => w'.cell? ⟨bx, 1, none⟩ = some (.int .i64 a) ∧ w'.cell? ⟨bx, 3, none⟩ = some (.slice fpA fpn fpc) ∧ w'.cell? ⟨bx, 4, none⟩ = some (.slice frA frn frc) ∧ w'.cell? ⟨bx, 18, none⟩ = some (.int .u8 t) ∧ w'.cell? ⟨bx, 19, none⟩ = some (.int .u64 lo) ∧ w'.cell? ⟨bx, 20, none⟩ = some (.int .u64 hi)) [] (by kernel_rfl) ?_
    have hk' := (Kept.refl S0 w15).drew
    replace HP := Lib.hid (HP.out.kept hk')
    replace HB := Lib.hid (hk'.blk HB.out (fun x => x))
    replace HK := Lib.hid (HK.out.then0 hk')
    clear hk'
    generalize w15.drew = v0 at *
    have hS : v0.cell? ⟨bx, 1, none⟩ = some (.int .i64 a) ∧ v0.cell? ⟨bx, 3, none⟩ = some (.slice fpA fpn fpc) ∧ v0.cell? ⟨bx, 4, none⟩ = some (.slice frA frn frc) ∧ v0.cell? ⟨bx, 18, none⟩ = some (.int .u8 t) ∧ v0.cell? ⟨bx, 19, none⟩ = some (.int .u64 lo) ∧ v0.cell? ⟨bx, 20, none⟩ = some (.int .u64 hi) := ⟨HB.out.cell 1, HB.out.cell 3, HB.out.cell 4, HB.out.cell 18, HB.out.cell 19, HB.out.cell 20⟩
    clear q1 q3 q4 q18 q19 q20
    refine wpAnyR_take 0 (v := ?_) rfl (by kernel_rfl) (by kernel_rfl) (by kernel_rfl) (by kernel_rfl) (fun _ _ _ h => h) hS ⟨by rfl, ?_⟩ ?_
    rotate_left; (intro w hSw; (try dsimp only at hSw); first | (go_simp; done) | (go_simp; with_reducible rfl))
    simp only [List.getElem_toArray, List.getElem_cons_zero, Act.put, List.setIfInBounds_toArray, List.set_cons_zero, List.set_cons_succ]
    refine wpAnyR_take 1 (v := ?_) rfl (by kernel_rfl) (by kernel_rfl) (by kernel_rfl) (by kernel_rfl) (fun _ _ _ h => h) hS ⟨by rfl, ?_⟩ ?_
    rotate_left; (intro w hSw; (try dsimp only at hSw); first | (go_simp; done) | (go_simp; with_reducible rfl))
    simp only [List.getElem_toArray, List.getElem_cons_zero, List.getElem_cons_succ, Act.put, List.setIfInBounds_toArray, List.set_cons_zero, List.set_cons_succ]
    refine wpAnyR_take 2 (v := ?_) rfl (by kernel_rfl) (by kernel_rfl) (by kernel_rfl) (by kernel_rfl) (fun _ _ _ h => h) hS ⟨by rfl, ?_⟩ ?_
    rotate_left; (intro w hSw; (try dsimp only at hSw); first | (go_simp; done) | (go_simp; with_reducible rfl))
    simp only [List.getElem_toArray, List.getElem_cons_zero, List.getElem_cons_succ, Act.put, List.setIfInBounds_toArray, List.set_cons_zero, List.set_cons_succ]
    refine wpAnyR_take 3 (v := ?_) rfl (by kernel_rfl) (by kernel_rfl) (by kernel_rfl) (by kernel_rfl) (fun _ _ _ h => h) hS ⟨by rfl, ?_⟩ ?_
    rotate_left; (intro w hSw; (try dsimp only at hSw); first | (go_simp; done) | (go_simp; with_reducible rfl))
    simp only [List.getElem_toArray, List.getElem_cons_zero, List.getElem_cons_succ, Act.put, List.setIfInBounds_toArray, List.set_cons_zero, List.set_cons_succ]
    refine wpAnyR_take 4 (v := ?_) rfl (by kernel_rfl) (by kernel_rfl) (by kernel_rfl) (by kernel_rfl) (fun _ _ _ h => h) hS ⟨by rfl, ?_⟩ ?_
    rotate_left; (intro w hSw; (try dsimp only at hSw); first | (go_simp; done) | (go_simp; with_reducible rfl))
    simp only [List.getElem_toArray, List.getElem_cons_zero, List.getElem_cons_succ, Act.put, List.setIfInBounds_toArray, List.set_cons_zero, List.set_cons_succ]
    refine wpAnyR_take 5 (v := ?_) rfl (by kernel_rfl) (by kernel_rfl) (by kernel_rfl) (by kernel_rfl) (fun _ _ _ h => h) hS ⟨by rfl, ?_⟩ ?_
    rotate_left; (intro w hSw; (try dsimp only at hSw); first | (go_simp; done) | (go_simp; with_reducible rfl))
    simp only [List.getElem_toArray, List.getElem_cons_zero, List.getElem_cons_succ, Act.put, List.setIfInBounds_toArray, List.set_cons_zero, List.set_cons_succ]
    refine wpAnyR_take 6 (v := ?_) rfl (by kernel_rfl) (by kernel_rfl) (by kernel_rfl) (by kernel_rfl) (fun _ _ _ h => h) hS ⟨by rfl, ?_⟩ ?_
    rotate_left; (intro w hSw; (try dsimp only at hSw); first | (go_simp; done) | (go_simp; with_reducible rfl))
    simp only [List.getElem_toArray, List.getElem_cons_zero, List.getElem_cons_succ, Act.put, List.setIfInBounds_toArray, List.set_cons_zero, List.set_cons_succ]
    refine wpAnyR_take 7 (v := ?_) rfl (by kernel_rfl) (by kernel_rfl) (by kernel_rfl) (by kernel_rfl) (fun _ _ _ h => h) hS ⟨by rfl, ?_⟩ ?_
    rotate_left; (intro w hSw; (try dsimp only at hSw); first | (go_simp; done) | (go_simp; with_reducible rfl))
    simp only [List.getElem_toArray, List.getElem_cons_zero, List.getElem_cons_succ, Act.put, List.setIfInBounds_toArray, List.set_cons_zero, List.set_cons_succ]
    refine wpAnyR_take 8 (v := ?_) rfl (by kernel_rfl) (by kernel_rfl) (by kernel_rfl) (by kernel_rfl) (fun _ _ _ h => h) hS ⟨by rfl, ?_⟩ ?_
    rotate_left; (intro w hSw; (try dsimp only at hSw); first | (go_simp; done) | (go_simp; with_reducible rfl))
    simp only [List.getElem_toArray, List.getElem_cons_zero, List.getElem_cons_succ, Act.put, List.setIfInBounds_toArray, List.set_cons_zero, List.set_cons_succ]
    refine wpAnyR_take 9 (v := ?_) rfl (by kernel_rfl) (by kernel_rfl) (by kernel_rfl) (by kernel_rfl) (fun _ _ _ h => h) hS ⟨by rfl, ?_⟩ ?_
    rotate_left; (intro w hSw; (try dsimp only at hSw); first | (go_simp; done) | (go_simp; with_reducible rfl))
    simp only [List.getElem_toArray, List.getElem_cons_zero, List.getElem_cons_succ, Act.put, List.setIfInBounds_toArray, List.set_cons_zero, List.set_cons_succ]
    refine wpAnyR_take 10 (v := ?_) rfl (by kernel_rfl) (by kernel_rfl) (by kernel_rfl) (by kernel_rfl) (fun _ _ _ h => h) hS ⟨by rfl, ?_⟩ ?_
    rotate_left; (intro w hSw; (try dsimp only at hSw); first | (go_simp; done) | (go_simp; with_reducible rfl))
    simp only [List.getElem_toArray, List.getElem_cons_zero, List.getElem_cons_succ, Act.put, List.setIfInBounds_toArray, List.set_cons_zero, List.set_cons_succ]
    refine wpAnyR_take 11 (v := ?_) rfl (by kernel_rfl) (by kernel_rfl) (by kernel_rfl) (by kernel_rfl) (fun _ _ _ h => h) hS ⟨by rfl, ?_⟩ ?_
    rotate_left; (intro w hSw; (try dsimp only at hSw); first | (go_simp; done) | (go_simp; with_reducible rfl))
    simp only [List.getElem_toArray, List.getElem_cons_zero, List.getElem_cons_succ, Act.put, List.setIfInBounds_toArray, List.set_cons_zero, List.set_cons_succ]
    refine wpAnyR_take 12 (v := ?_) rfl (by kernel_rfl) (by kernel_rfl) (by kernel_rfl) (by kernel_rfl) (fun _ _ _ h => h) hS ⟨by rfl, ?_⟩ ?_
    rotate_left; (intro w hSw; (try dsimp only at hSw); first | (go_simp; done) | (go_simp; with_reducible rfl))
    simp only [List.getElem_toArray, List.getElem_cons_zero, List.getElem_cons_succ, Act.put, List.setIfInBounds_toArray, List.set_cons_zero, List.set_cons_succ]
    refine wpAnyR_take 13 (v := ?_) rfl (by kernel_rfl) (by kernel_rfl) (by kernel_rfl) (by kernel_rfl) (fun _ _ _ h => h) hS ⟨by rfl, ?_⟩ ?_
    rotate_left; (intro w hSw; (try dsimp only at hSw); first | (go_simp; done) | (go_simp; with_reducible rfl))
    simp only [List.getElem_toArray, List.getElem_cons_zero, List.getElem_cons_succ, Act.put, List.setIfInBounds_toArray, List.set_cons_zero, List.set_cons_succ]
    refine wpAnyR_take 14 (v := ?_) rfl (by kernel_rfl) (by kernel_rfl) (by kernel_rfl) (by kernel_rfl) (fun _ _ _ h => h) hS ⟨by rfl, ?_⟩ ?_
    rotate_left; (intro w hSw; (try dsimp only at hSw); first | (go_simp; done) | (go_simp; with_reducible rfl))
    simp only [List.getElem_toArray, List.getElem_cons_zero, List.getElem_cons_succ, Act.put, List.setIfInBounds_toArray, List.set_cons_zero, List.set_cons_succ]
    refine wpAnyR_take 15 (v := ?_) rfl (by kernel_rfl) (by kernel_rfl) (by kernel_rfl) (by kernel_rfl) (fun _ _ _ h => h) hS ⟨by rfl, ?_⟩ ?_
    rotate_left; (intro w hSw; (try dsimp only at hSw); first | (go_simp; done) | (go_simp; with_reducible rfl))
    simp only [List.getElem_toArray, List.getElem_cons_zero, List.getElem_cons_succ, Act.put, List.setIfInBounds_toArray, List.set_cons_zero, List.set_cons_succ]
    refine wpAnyR_take 16 (v := ?_) rfl (by kernel_rfl) (by kernel_rfl) (by kernel_rfl) (by kernel_rfl) (fun _ _ _ h => h) hS ⟨by rfl, ?_⟩ ?_
    rotate_left; (intro w hSw; (try dsimp only at hSw); first | (go_simp; done) | (go_simp; with_reducible rfl))
    simp only [List.getElem_toArray, List.getElem_cons_zero, List.getElem_cons_succ, Act.put, List.setIfInBounds_toArray, List.set_cons_zero, List.set_cons_succ]
    refine wpAnyR_take 17 (v := ?_) rfl (by kernel_rfl) (by kernel_rfl) (by kernel_rfl) (by kernel_rfl) (fun _ _ _ h => h) hS ⟨by rfl, ?_⟩ ?_
    rotate_left; (intro w hSw; (try dsimp only at hSw); first | (go_simp; done) | (go_simp; with_reducible rfl))
    simp only [List.getElem_toArray, List.getElem_cons_zero, List.getElem_cons_succ, Act.put, List.setIfInBounds_toArray, List.set_cons_zero, List.set_cons_succ]
    refine wpAnyR_take 18 (v := ?_) rfl (by kernel_rfl) (by kernel_rfl) (by kernel_rfl) (by kernel_rfl) (fun _ _ _ h => h) hS ⟨by rfl, ?_⟩ ?_
    rotate_left; (intro w hSw; (try dsimp only at hSw); first | (go_simp; done) | (go_simp; with_reducible rfl))
    simp only [List.getElem_toArray, List.getElem_cons_zero, List.getElem_cons_succ, Act.put, List.setIfInBounds_toArray, List.set_cons_zero, List.set_cons_succ]
    refine wpAnyR_take 19 (v := ?_) rfl (by kernel_rfl) (by kernel_rfl) (by kernel_rfl) (by kernel_rfl) (fun _ _ _ h => h) hS ⟨by rfl, ?_⟩ ?_
    rotate_left; (intro w hSw; (try dsimp only at hSw); first | (go_simp; done) | (go_simp; with_reducible rfl))
    simp only [List.getElem_toArray, List.getElem_cons_zero, List.getElem_cons_succ, Act.put, List.setIfInBounds_toArray, List.set_cons_zero, List.set_cons_succ]
    refine wpAnyR_take 21 (v := ?_) rfl (by kernel_rfl) (by kernel_rfl) (by kernel_rfl) (by kernel_rfl) (fun _ _ _ h => h) hS ⟨by rfl, ?_⟩ ?_
    rotate_left; (intro w hSw; (try dsimp only at hSw); first | (go_simp; done) | (go_simp; with_reducible rfl))
    simp only [List.getElem_toArray, List.getElem_cons_zero, List.getElem_cons_succ, Act.put, List.setIfInBounds_toArray, List.set_cons_zero, List.set_cons_succ]
    refine wpAnyR_take 22 (v := ?_) rfl (by kernel_rfl) (by kernel_rfl) (by kernel_rfl) (by kernel_rfl) (fun _ _ _ h => h) hS ⟨by rfl, ?_⟩ ?_
    rotate_left; (intro w hSw; (try dsimp only at hSw); first | (go_simp; done) | (go_simp; with_reducible rfl))
    simp only [List.getElem_toArray, List.getElem_cons_zero, List.getElem_cons_succ, Act.put, List.setIfInBounds_toArray, List.set_cons_zero, List.set_cons_succ]
    refine wpAnyR_take 23 (v := ?_) rfl (by kernel_rfl) (by kernel_rfl) (by kernel_rfl) (by kernel_rfl) (fun _ _ _ h => h) hS ⟨by rfl, ?_⟩ ?_
    rotate_left; (intro w hSw; (try dsimp only at hSw); first | (go_simp; done) | (go_simp; with_reducible rfl))
    simp only [List.getElem_toArray, List.getElem_cons_zero, List.getElem_cons_succ, Act.put, List.setIfInBounds_toArray, List.set_cons_zero, List.set_cons_succ]
    refine wpAnyR_take 25 (v := ?_) rfl (by kernel_rfl) (by kernel_rfl) (by kernel_rfl) (by kernel_rfl) (fun _ _ _ h => h) hS ⟨by rfl, ?_⟩ ?_
    rotate_left; (intro w hSw; (try dsimp only at hSw); first | (go_simp; done) | (go_simp; with_reducible rfl))
    simp only [List.getElem_toArray, List.getElem_cons_zero, List.getElem_cons_succ, Act.put, List.setIfInBounds_toArray, List.set_cons_zero, List.set_cons_succ]
    refine wpAnyR_take 26 (v := ?_) rfl (by kernel_rfl) (by kernel_rfl) (by kernel_rfl) (by kernel_rfl) (fun _ _ _ h => h) hS ⟨by rfl, ?_⟩ ?_
    rotate_left; (intro w hSw; (try dsimp only at hSw); first | (go_simp; done) | (go_simp; with_reducible rfl))
    simp only [List.getElem_toArray, List.getElem_cons_zero, List.getElem_cons_succ, Act.put, List.setIfInBounds_toArray, List.set_cons_zero, List.set_cons_succ]
    refine wpAnyR_take 27 (v := ?_) rfl (by kernel_rfl) (by kernel_rfl) (by kernel_rfl) (by kernel_rfl) (fun _ _ _ h => h) hS ⟨by rfl, ?_⟩ ?_
    rotate_left; (intro w hSw; (try dsimp only at hSw); first | (go_simp; done) | (go_simp; with_reducible rfl))
    simp only [List.getElem_toArray, List.getElem_cons_zero, List.getElem_cons_succ, Act.put, List.setIfInBounds_toArray, List.set_cons_zero, List.set_cons_succ]
    refine wpAnyR_take 28 (v := ?_) rfl (by kernel_rfl) (by kernel_rfl) (by kernel_rfl) (by kernel_rfl) (fun _ _ _ h => h) hS ⟨by rfl, ?_⟩ ?_
    rotate_left; (intro w hSw; (try dsimp only at hSw); first | (go_simp; done) | (go_simp; with_reducible rfl))
    simp only [List.getElem_toArray, List.getElem_cons_zero, List.getElem_cons_succ, Act.put, List.setIfInBounds_toArray, List.set_cons_zero, List.set_cons_succ]
    refine wpAnyR_take 29 (v := ?_) rfl (by kernel_rfl) (by kernel_rfl) (by kernel_rfl) (by kernel_rfl) (fun _ _ _ h => h) hS ⟨by rfl, ?_⟩ ?_
    rotate_left; (intro w hSw; (try dsimp only at hSw); first | (go_simp; done) | (go_simp; with_reducible rfl))
    simp only [List.getElem_toArray, List.getElem_cons_zero, List.getElem_cons_succ, Act.put, List.setIfInBounds_toArray, List.set_cons_zero, List.set_cons_succ]
    refine wpAnyR_take 30 (v := ?_) rfl (by kernel_rfl) (by kernel_rfl) (by kernel_rfl) (by kernel_rfl) (fun _ _ _ h => h) hS ⟨by rfl, ?_⟩ ?_
    rotate_left; (intro w hSw; (try dsimp only at hSw); first | (go_simp; done) | (go_simp; with_reducible rfl))
    simp only [List.getElem_toArray, List.getElem_cons_zero, List.getElem_cons_succ, Act.put, List.setIfInBounds_toArray, List.set_cons_zero, List.set_cons_succ]
    refine wpAnyR_one 20 rfl (by kernel_rfl) (fun K hK => ?_)
    go_simp
    go_at_call 30
    refine (setglobal_none a t lo hi HP.out).mono ?_
    rintro e v1 ⟨rfl, hk⟩
    replace HP := Lib.hid (HP.out.kept hk)
    replace HB := Lib.hid (hk.blk HB.out (fun x => x))
    replace HK := Lib.hid (HK.out.then0 hk)
    clear hk hS
    have hS : v1.cell? ⟨bx, 1, none⟩ = some (.int .i64 a) ∧ v1.cell? ⟨bx, 3, none⟩ = some (.slice fpA fpn fpc) ∧ v1.cell? ⟨bx, 4, none⟩ = some (.slice frA frn frc) ∧ v1.cell? ⟨bx, 18, none⟩ = some (.int .u8 t) ∧ v1.cell? ⟨bx, 19, none⟩ = some (.int .u64 lo) ∧ v1.cell? ⟨bx, 20, none⟩ = some (.int .u64 hi) := ⟨HB.out.cell 1, HB.out.cell 3, HB.out.cell 4, HB.out.cell 18, HB.out.cell 19, HB.out.cell 20⟩
    refine hK.out _ _ (fun _ => hS) ?_
    clear hK K
    refine wpAnyR_one 24 rfl (by kernel_rfl) (fun K hK => ?_)
    go_simp
    go_at_call 31
    refine (drop_none 1 a HP.out).mono ?_
    rintro e v2 ⟨rfl, hk⟩
    replace HP := Lib.hid (HP.out.kept hk)
    replace HB := Lib.hid (hk.blk HB.out (fun x => x))
    replace HK := Lib.hid (HK.out.then0 hk)
    clear hk hS
    have hS : v2.cell? ⟨bx, 1, none⟩ = some (.int .i64 a) ∧ v2.cell? ⟨bx, 3, none⟩ = some (.slice fpA fpn fpc) ∧ v2.cell? ⟨bx, 4, none⟩ = some (.slice frA frn frc) ∧ v2.cell? ⟨bx, 18, none⟩ = some (.int .u8 t) ∧ v2.cell? ⟨bx, 19, none⟩ = some (.int .u64 lo) ∧ v2.cell? ⟨bx, 20, none⟩ = some (.int .u64 hi) := ⟨HB.out.cell 1, HB.out.cell 3, HB.out.cell 4, HB.out.cell 18, HB.out.cell 19, HB.out.cell 20⟩
    refine hK.out _ _ (fun _ => hS) ?_
    clear hK K
    refine wpAnyR_one 31 rfl (by kernel_rfl) (fun K hK => ?_)
    go_simp
    go_at_call 32
    refine (fits_none 0 0 _ fpA fpn fpc frA frn frc HP.out).mono ?_
    rintro e v3 ⟨rfl, hk⟩
    replace HP := Lib.hid (HP.out.kept hk)
    replace HB := Lib.hid (hk.blk HB.out (fun x => x))
    replace HK := Lib.hid (HK.out.then0 hk)
    clear hk hS
    have hS : v3.cell? ⟨bx, 1, none⟩ = some (.int .i64 a) ∧ v3.cell? ⟨bx, 3, none⟩ = some (.slice fpA fpn fpc) ∧ v3.cell? ⟨bx, 4, none⟩ = some (.slice frA frn frc) ∧ v3.cell? ⟨bx, 18, none⟩ = some (.int .u8 t) ∧ v3.cell? ⟨bx, 19, none⟩ = some (.int .u64 lo) ∧ v3.cell? ⟨bx, 20, none⟩ = some (.int .u64 hi) := ⟨HB.out.cell 1, HB.out.cell 3, HB.out.cell 4, HB.out.cell 18, HB.out.cell 19, HB.out.cell 20⟩
    refine hK.out _ _ (fun _ => hS) ?_
    clear hK K
    refine wpAnyR_one 32 rfl (by kernel_rfl) (fun K hK => ?_)
    go_simp
    have hk : Kept S0 _ (v3.alloc (.cells #[.int .i64 1, .int .i64 1, .int .i64 1, .int .i64 1, .int .i64 1, .int .i64 1, .int .i64 1, .int .i64 1, .int .i64 1, .int .i64 1, .int .i64 1, .int .i64 1, .int .i64 1, .int .i64 1, .int .i64 1, .int .i64 1, .int .i64 1, .int .i64 1] 32)) := (Kept.refl S0 v3).alloc _
    have hl := Blk.new v3 32 #[.int .i64 1, .int .i64 1, .int .i64 1, .int .i64 1, .int .i64 1, .int .i64 1, .int .i64 1, .int .i64 1, .int .i64 1, .int .i64 1, .int .i64 1, .int .i64 1, .int .i64 1, .int .i64 1, .int .i64 1, .int .i64 1, .int .i64 1, .int .i64 1]
    replace HP := Lib.hid (HP.out.kept hk)
    replace HB := Lib.hid (hk.blk HB.out (fun x => x))
    replace HK := Lib.hid (HK.out.then0 hk)
    have HL := Lib.hid hl
    clear hk hS hl
    generalize v3.alloc (.cells #[.int .i64 1, .int .i64 1, .int .i64 1, .int .i64 1, .int .i64 1, .int .i64 1, .int .i64 1, .int .i64 1, .int .i64 1, .int .i64 1, .int .i64 1, .int .i64 1, .int .i64 1, .int .i64 1, .int .i64 1, .int .i64 1, .int .i64 1, .int .i64 1] 32) = v4 at *
    have hS : v4.cell? ⟨bx, 1, none⟩ = some (.int .i64 a) ∧ v4.cell? ⟨bx, 3, none⟩ = some (.slice fpA fpn fpc) ∧ v4.cell? ⟨bx, 4, none⟩ = some (.slice frA frn frc) ∧ v4.cell? ⟨bx, 18, none⟩ = some (.int .u8 t) ∧ v4.cell? ⟨bx, 19, none⟩ = some (.int .u64 lo) ∧ v4.cell? ⟨bx, 20, none⟩ = some (.int .u64 hi) := ⟨HB.out.cell 1, HB.out.cell 3, HB.out.cell 4, HB.out.cell 18, HB.out.cell 19, HB.out.cell 20⟩
    refine hK.out _ _ (fun _ => hS) ?_
    clear hK K
    refine wpAnyR_take 33 (v := ?_) rfl (by kernel_rfl) (by kernel_rfl) (by kernel_rfl) (by kernel_rfl) (fun _ _ _ h => h) hS ⟨by rfl, ?_⟩ ?_
    rotate_left; (intro w hSw; (try dsimp only at hSw); first | (go_simp; done) | (go_simp; with_reducible rfl))
    simp only [List.getElem_toArray, List.getElem_cons_zero, List.getElem_cons_succ, Act.put, List.setIfInBounds_toArray, List.set_cons_zero, List.set_cons_succ]
    clear hS
    refine wpAnyR_done (by kernel_rfl) ?_ _
    generalize v3.heap.size = lb at *
    go_wp2_with fail
    go_loopw [38] (fun i wr => ∃ k : Nat, k ≤ 18 ∧ i = .int .i64 (k : Int) ∧ wr = v4) (fun i _ => 18 - (intOf i).toNat)
    case atStart => exact ⟨0, by omega, rfl, rfl⟩
    case round =>
      obtain ⟨k, hk, rfl, rfl⟩ := hrel
      by_cases hlt : k < 18
      · have d0 : wr.cell? ⟨lb, k, none⟩ = some (.int .i64 1) := by
          rw [HL.out.cell k]
          exact ones18 k hlt
        go_wp2_with fail
        go_roundw
        case rel => exact ⟨k + 1, by omega, by go_num, trivial⟩
        case measure => simp [intOf]; omega
      · obtain rfl : k = 18 := by omega
        go_wp2_with fail
        refine (sizes_none HP.out).mono ?_
        rintro e u1 ⟨rfl, hk1⟩
        have HP1 := Lib.hid (HP.out.kept hk1)
        have HK1 := Lib.hid (HK.out.then0 hk1)
        clear hk1
        have qz := zeros_eq u1
        go_wp2_with fail
        refine (typed_none HP1.out).mono ?_
        rintro e u2 ⟨rfl, hk2⟩
        have HK2 := Lib.hid (HK1.out.then0 hk2)
        clear hk2
        go_wp2_with fail
        refine (lives_any _).mono ?_
        rintro e u3 ⟨rfl, hk3⟩
        have HK3 := Lib.hid (HK2.out.then0 hk3)
        clear hk3
        go_wp2_with fail
        go_ret
        exact ⟨rfl, HK3.out⟩
end Go.Proofs.Ytlnkdnmeikpckaa
