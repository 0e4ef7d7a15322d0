/- What the proofs lean on, part 2 of Fi. No condition. -/
import Derived.Test.YtlnkdnmeikpckaaGreatMFia
import Derived.Test.YtlnkdnmeikpckaaGreatMSta
import Derived.Test.YtlnkdnmeikpckaaGreatMStb
namespace Go.Proofs.YtlnkdnmeikpckaaGreat
open Go.RowKit
set_option maxRecDepth 100000
section
variable {w : World} {sb B n : Nat} {fl tl ml gl el dl il : Value} {F : Nat → Value}
set_option maxRecDepth 100000 in
set_option maxHeartbeats 3200000 in
theorem fits_func_out (a : Int) (hown : Own w B 51 6 AnyV fl n F) (hn : n ≤ 65536) (ha : a < 0 ∨ (n : Int) ≤ a) (s1 s2 : ByteArray) (k fi wl wn wx : Int) (wb : Bool) (mn mx : Int) (mb : Bool) (gt : Int) (gm : Bool) (P R : Option Addr) (mp mr cp cr : Nat) (pv ru : Nat → UInt8) (hP : TSl w P mp cp pv) (hR : TSl w R mr cr ru) (hb : Blk w sb 132 (stCells fl tl ml gl el dl il)) :
    Calls Tryz.prog 10 #[.pointer (some ⟨sb, 0, none⟩), .agg #[.int .u8 0, .int .i64 a], .agg #[.string s1, .string s2, .int .u8 k, .int .u32 fi, .int .u8 wl, .int .u32 wn, .int .u32 wx, .bool wb, .int .u32 mn, .int .u32 mx, .bool mb, .int .u8 gt, .bool gm], .agg #[.slice P mp cp, .slice R mr cr]] w fun e w' => e = .returned (.int .i64 11) ∧ Kept S0 w w' := by
  have hx := fbox_new w 0 a #[.string s1, .string s2, .int .u8 k, .int .u32 fi, .int .u8 wl, .int .u32 wn, .int .u32 wx, .bool wb, .int .u32 mn, .int .u32 mx, .bool mb, .int .u8 gt, .bool gm] #[.slice P mp cp, .slice R mr cr]
  have hka : Kept S0 w (((w.alloc (.cells #[.int .u8 0, .int .i64 a] 25)).alloc (.cells #[.string s1, .string s2, .int .u8 k, .int .u32 fi, .int .u8 wl, .int .u32 wn, .int .u32 wx, .bool wb, .int .u32 mn, .int .u32 mx, .bool mb, .int .u8 gt, .bool gm] 35)).alloc (.cells #[.slice P mp cp, .slice R mr cr] 38)) := (((Kept.refl S0 w).alloc _).alloc _).alloc _
  have hba := hka.blk hb (fun x => x)
  have hkb := hka.alloc (.cells #[.slice none 0 0, .slice none 0 0, .bool false, .string { data := #[] }, .int .i64 0, .int .i64 0] 51)
  have HO := Lib.hid (hown.kept hkb (fun _ _ x => x))
  have HBA := Lib.hid hba
  have HB2 := Lib.hid (hkb.blk hb (fun x => x))
  have HX := Lib.hid hx
  have HP := Lib.hid (hP.kept hkb)
  have HP0 := Lib.hid hP
  have HR0 := Lib.hid hR
  have HR := Lib.hid (hR.kept hkb)
  have HK := Lib.hid hkb
  have HX2 := Lib.hid (hx.kept ((Kept.refl S0 _).alloc (.cells #[.slice none 0 0, .slice none 0 0, .bool false, .string { data := #[] }, .int .i64 0, .int .i64 0] 51)))
  have HZ := Lib.hid (Blk.new (((w.alloc (.cells #[.int .u8 0, .int .i64 a] 25)).alloc (.cells #[.string s1, .string s2, .int .u8 k, .int .u32 fi, .int .u8 wl, .int .u32 wn, .int .u32 wx, .bool wb, .int .u32 mn, .int .u32 mx, .bool mb, .int .u8 gt, .bool gm] 35)).alloc (.cells #[.slice P mp cp, .slice R mr cr] 38)) 51 #[.slice none 0 0, .slice none 0 0, .bool false, .string { data := #[] }, .int .i64 0, .int .i64 0])
  have HSZ := Lib.hid (show (((w.alloc (.cells #[.int .u8 0, .int .i64 a] 25)).alloc (.cells #[.string s1, .string s2, .int .u8 k, .int .u32 fi, .int .u8 wl, .int .u32 wn, .int .u32 wx, .bool wb, .int .u32 mn, .int .u32 mx, .bool mb, .int .u8 gt, .bool gm] 35)).alloc (.cells #[.slice P mp cp, .slice R mr cr] 38)).heap.size = w.heap.size + 3 by simp)
  have HA := Lib.hid ha
  clear hb hba hx hka hown ha hkb hP hR
  go_enter Tryz.func10, Tryz.ntmps10
  go_wp2_with fail
  generalize (((w.alloc (.cells #[.int .u8 0, .int .i64 a] 25)).alloc (.cells #[.string s1, .string s2, .int .u8 k, .int .u32 fi, .int .u8 wl, .int .u32 wn, .int .u32 wx, .bool wb, .int .u32 mn, .int .u32 mx, .bool mb, .int .u8 gt, .bool gm] 35)).alloc (.cells #[.slice P mp cp, .slice R mr cr] 38)) = wa at *
  generalize hbx : w.heap.size = bx at *
  have c0 : wa.cell? ⟨sb, 0, none⟩ = some (.bool true) := HBA.out.cell 0
  refine (off_made _ _ c0).mono ?_
  rintro e w1 ⟨rfl, rfl⟩
  have e0 : wa.cell? ⟨bx, 0, none⟩ = some (.int .u8 0) := HX.out.e.cell 0
  have e1 : (wa.alloc (.cells #[.slice none 0 0, .slice none 0 0, .bool false, .string { data := #[] }, .int .i64 0, .int .i64 0] 51)).cell? ⟨bx, 1, none⟩ = some (.int .i64 a) := HX2.out.e.cell 1
  clear c0
  go_wp2_with fail
  clear e0 e1
  refine (getfunc_out a HB2.out HO.out hn HA.out).mono ?_
  rintro e w3 ⟨rfl, hk3⟩
  generalize hxs : wa.heap.size = xs at *
  have HK3 := Lib.hid (HK.out.then0 hk3)
  have hz3 := hk3.blk HZ.out (fun x => x)
  have hx3 := HX2.out.kept hk3
  have hp3 := HP.out.kept hk3
  have hr3 := HR.out.kept hk3
  have hb3 := hk3.blk HB2.out (fun x => x)
  clear hk3
  have f0 := hz3.frozen 0
  have g0 : w3.cell? ⟨xs, 0, none⟩ = some (.slice none 0 0) := hz3.cell 0
  have f1 := hz3.frozen 1
  have g1 : w3.cell? ⟨xs, 1, none⟩ = some (.slice none 0 0) := hz3.cell 1
  have f2 := hz3.frozen 2
  have g2 : w3.cell? ⟨xs, 2, none⟩ = some (.bool false) := hz3.cell 2
  have f3 := hz3.frozen 3
  have g3 : w3.cell? ⟨xs, 3, none⟩ = some (.string { data := #[] }) := hz3.cell 3
  have f4 := hz3.frozen 4
  have g4 : w3.cell? ⟨xs, 4, none⟩ = some (.int .i64 0) := hz3.cell 4
  have f5 := hz3.frozen 5
  have g5 : w3.cell? ⟨xs, 5, none⟩ = some (.int .i64 0) := hz3.cell 5
  have hk4 := (((((((Kept.refl (S1 (xs)) w3).setCell (p := ⟨xs, 0, none⟩) (.inl rfl) (.slice none 0 0)).setCell (p := ⟨xs, 1, none⟩) (.inl rfl) (.slice none 0 0)).setCell (p := ⟨xs, 2, none⟩) (.inl rfl) (.bool false)).setCell (p := ⟨xs, 3, none⟩) (.inl rfl) (.string { data := #[] })).setCell (p := ⟨xs, 4, none⟩) (.inl rfl) (.int .i64 0)).setCell (p := ⟨xs, 5, none⟩) (.inl rfl) (.int .i64 0))
  have hz4 : Blk ((((((w3.setCell ⟨xs, 0, none⟩ (.slice none 0 0)).setCell ⟨xs, 1, none⟩ (.slice none 0 0)).setCell ⟨xs, 2, none⟩ (.bool false)).setCell ⟨xs, 3, none⟩ (.string { data := #[] })).setCell ⟨xs, 4, none⟩ (.int .i64 0)).setCell ⟨xs, 5, none⟩ (.int .i64 0)) xs 51 #[.slice none 0 0, .slice none 0 0, .bool false, .string { data := #[] }, .int .i64 0, .int .i64 0] := ((((((hz3.set_ 0 (.slice none 0 0)).set_ 1 (.slice none 0 0)).set_ 2 (.bool false)).set_ 3 (.string { data := #[] })).set_ 4 (.int .i64 0)).set_ 5 (.int .i64 0))
  have hxne : xs = bx + 3 := by have := HSZ.out; omega
  have ht4 := hk4.blk hx3.t (fun e => by have e' : bx + 2 = xs := e; omega)
  have HKK := Lib.hid (HK3.out.trans_ hk4 (fun i e => .inr (by have e' : i = xs := e; omega)))
  have hP4 := HP0.out.kept HKK.out
  have hR4 := HR0.out.kept HKK.out
  have hN := fun (q : Nat → UInt8) => (⟨by rw [show byteV q = byteV q from rfl]; exact Sl.nil _, fun _ => ⟨rfl, rfl⟩, by omega⟩ : TSl ((((((w3.setCell ⟨xs, 0, none⟩ (.slice none 0 0)).setCell ⟨xs, 1, none⟩ (.slice none 0 0)).setCell ⟨xs, 2, none⟩ (.bool false)).setCell ⟨xs, 3, none⟩ (.string { data := #[] })).setCell ⟨xs, 4, none⟩ (.int .i64 0)).setCell ⟨xs, 5, none⟩ (.int .i64 0)) none 0 0 q)
  have HSM := Lib.hid (same_any none none P R 0 0 mp mr 0 0 cp cr (fun _ => 0) (fun _ => 0) pv ru ((((((w3.setCell ⟨xs, 0, none⟩ (.slice none 0 0)).setCell ⟨xs, 1, none⟩ (.slice none 0 0)).setCell ⟨xs, 2, none⟩ (.bool false)).setCell ⟨xs, 3, none⟩ (.string { data := #[] })).setCell ⟨xs, 4, none⟩ (.int .i64 0)).setCell ⟨xs, 5, none⟩ (.int .i64 0)) (hN _) (hN _) hP4 hR4)
  have s0 : ((((((w3.setCell ⟨xs, 0, none⟩ (.slice none 0 0)).setCell ⟨xs, 1, none⟩ (.slice none 0 0)).setCell ⟨xs, 2, none⟩ (.bool false)).setCell ⟨xs, 3, none⟩ (.string { data := #[] })).setCell ⟨xs, 4, none⟩ (.int .i64 0)).setCell ⟨xs, 5, none⟩ (.int .i64 0)).cell? ⟨xs, 0, none⟩ = some (.slice none 0 0) := hz4.cell 0
  have s1 : ((((((w3.setCell ⟨xs, 0, none⟩ (.slice none 0 0)).setCell ⟨xs, 1, none⟩ (.slice none 0 0)).setCell ⟨xs, 2, none⟩ (.bool false)).setCell ⟨xs, 3, none⟩ (.string { data := #[] })).setCell ⟨xs, 4, none⟩ (.int .i64 0)).setCell ⟨xs, 5, none⟩ (.int .i64 0)).cell? ⟨xs, 1, none⟩ = some (.slice none 0 0) := hz4.cell 1
  have s2 : ((((((w3.setCell ⟨xs, 0, none⟩ (.slice none 0 0)).setCell ⟨xs, 1, none⟩ (.slice none 0 0)).setCell ⟨xs, 2, none⟩ (.bool false)).setCell ⟨xs, 3, none⟩ (.string { data := #[] })).setCell ⟨xs, 4, none⟩ (.int .i64 0)).setCell ⟨xs, 5, none⟩ (.int .i64 0)).cell? ⟨bx + 2, 0, none⟩ = some (.slice P mp cp) := ht4.cell 0
  have s3 : ((((((w3.setCell ⟨xs, 0, none⟩ (.slice none 0 0)).setCell ⟨xs, 1, none⟩ (.slice none 0 0)).setCell ⟨xs, 2, none⟩ (.bool false)).setCell ⟨xs, 3, none⟩ (.string { data := #[] })).setCell ⟨xs, 4, none⟩ (.int .i64 0)).setCell ⟨xs, 5, none⟩ (.int .i64 0)).cell? ⟨bx + 2, 1, none⟩ = some (.slice R mr cr) := ht4.cell 1
  clear hxne hxs hz3 hx3 hp3 hr3 hb3 hk4 hz4 ht4 hP4 hR4 hN HX HX2 HZ HO HB2 HBA HP HR
  go_wp2_with fail
  refine HSM.out.mono ?_
  rintro e w5 ⟨rfl, hk5⟩
  have HK5 := Lib.hid (HKK.out.then0 hk5)
  clear hk5 s0 s1 s2 s3 f0 f1 f2 f3 f4 f5 g0 g1 g2 g3 g4 g5
  go_wp2_with fail
  go_ret
  exact ⟨rfl, HK5.out⟩
set_option maxRecDepth 100000 in
set_option maxHeartbeats 3200000 in
theorem fits_glob_out (a : Int) (hown : Own w B 149 5 AnyV gl n F) (hn : n ≤ 65536) (ha : a < 0 ∨ (n : Int) ≤ a) (s1 s2 : ByteArray) (k fi wl wn wx : Int) (wb : Bool) (mn mx : Int) (mb : Bool) (gt : Int) (gm : Bool) (P R : Option Addr) (mp mr cp cr : Nat) (hb : Blk w sb 132 (stCells fl tl ml gl el dl il)) :
    Calls Tryz.prog 10 #[.pointer (some ⟨sb, 0, none⟩), .agg #[.int .u8 3, .int .i64 a], .agg #[.string s1, .string s2, .int .u8 k, .int .u32 fi, .int .u8 wl, .int .u32 wn, .int .u32 wx, .bool wb, .int .u32 mn, .int .u32 mx, .bool mb, .int .u8 gt, .bool gm], .agg #[.slice P mp cp, .slice R mr cr]] w fun e w' => e = .returned (.int .i64 11) ∧ Kept S0 w w' := by
  have hx := fbox_new w 3 a #[.string s1, .string s2, .int .u8 k, .int .u32 fi, .int .u8 wl, .int .u32 wn, .int .u32 wx, .bool wb, .int .u32 mn, .int .u32 mx, .bool mb, .int .u8 gt, .bool gm] #[.slice P mp cp, .slice R mr cr]
  have hka : Kept S0 w (((w.alloc (.cells #[.int .u8 3, .int .i64 a] 25)).alloc (.cells #[.string s1, .string s2, .int .u8 k, .int .u32 fi, .int .u8 wl, .int .u32 wn, .int .u32 wx, .bool wb, .int .u32 mn, .int .u32 mx, .bool mb, .int .u8 gt, .bool gm] 35)).alloc (.cells #[.slice P mp cp, .slice R mr cr] 38)) := (((Kept.refl S0 w).alloc _).alloc _).alloc _
  have hba := hka.blk hb (fun x => x)
  have hkb := hka.alloc (.cells #[.int .u8 0, .bool false] 33)
  have HO := Lib.hid (hown.kept hkb (fun _ _ x => x))
  have HBA := Lib.hid hba
  have HB2 := Lib.hid (hkb.blk hb (fun x => x))
  have HX := Lib.hid hx
  have HK := Lib.hid hkb
  have HX2 := Lib.hid (hx.kept ((Kept.refl S0 _).alloc (.cells #[.int .u8 0, .bool false] 33)))
  have HZ := Lib.hid (Blk.new (((w.alloc (.cells #[.int .u8 3, .int .i64 a] 25)).alloc (.cells #[.string s1, .string s2, .int .u8 k, .int .u32 fi, .int .u8 wl, .int .u32 wn, .int .u32 wx, .bool wb, .int .u32 mn, .int .u32 mx, .bool mb, .int .u8 gt, .bool gm] 35)).alloc (.cells #[.slice P mp cp, .slice R mr cr] 38)) 33 #[.int .u8 0, .bool false])
  have HSZ := Lib.hid (show (((w.alloc (.cells #[.int .u8 3, .int .i64 a] 25)).alloc (.cells #[.string s1, .string s2, .int .u8 k, .int .u32 fi, .int .u8 wl, .int .u32 wn, .int .u32 wx, .bool wb, .int .u32 mn, .int .u32 mx, .bool mb, .int .u8 gt, .bool gm] 35)).alloc (.cells #[.slice P mp cp, .slice R mr cr] 38)).heap.size = w.heap.size + 3 by simp)
  have HA := Lib.hid ha
  clear hb hba hx hka hown hkb ha
  go_enter Tryz.func10, Tryz.ntmps10
  go_wp2_with fail
  generalize (((w.alloc (.cells #[.int .u8 3, .int .i64 a] 25)).alloc (.cells #[.string s1, .string s2, .int .u8 k, .int .u32 fi, .int .u8 wl, .int .u32 wn, .int .u32 wx, .bool wb, .int .u32 mn, .int .u32 mx, .bool mb, .int .u8 gt, .bool gm] 35)).alloc (.cells #[.slice P mp cp, .slice R mr cr] 38)) = wa at *
  generalize hbx : w.heap.size = bx at *
  have c0 : wa.cell? ⟨sb, 0, none⟩ = some (.bool true) := HBA.out.cell 0
  refine (off_made _ _ c0).mono ?_
  rintro e w1 ⟨rfl, rfl⟩
  have e0 : wa.cell? ⟨bx, 0, none⟩ = some (.int .u8 3) := HX.out.e.cell 0
  have e1 : (wa.alloc (.cells #[.int .u8 0, .bool false] 33)).cell? ⟨bx, 1, none⟩ = some (.int .i64 a) := HX2.out.e.cell 1
  clear c0
  go_wp2_with fail
  clear e0 e1
  refine (getglob_out a HB2.out HO.out hn HA.out).mono ?_
  rintro e w3 ⟨rfl, hk3⟩
  generalize hxs : wa.heap.size = xs at *
  have HK3 := Lib.hid (HK.out.then0 hk3)
  have hz3 := hk3.blk HZ.out (fun x => x)
  have hx3 := HX2.out.kept hk3
  clear hk3
  have f0 := hz3.frozen 0
  have g0 : w3.cell? ⟨xs, 0, none⟩ = some (.int .u8 0) := hz3.cell 0
  have f1 := hz3.frozen 1
  have g1 : w3.cell? ⟨xs, 1, none⟩ = some (.bool false) := hz3.cell 1
  have hk4 := (((Kept.refl (S1 (xs)) w3).setCell (p := ⟨xs, 0, none⟩) (.inl rfl) (.int .u8 0)).setCell (p := ⟨xs, 1, none⟩) (.inl rfl) (.bool false))
  have hz4 : Blk ((w3.setCell ⟨xs, 0, none⟩ (.int .u8 0)).setCell ⟨xs, 1, none⟩ (.bool false)) xs 33 #[.int .u8 0, .bool false] := ((hz3.set_ 0 (.int .u8 0)).set_ 1 (.bool false))
  have hxne : xs = bx + 3 := by have := HSZ.out; omega
  have he4 := hk4.blk hx3.e (fun e => by have e' : bx = xs := e; omega)
  have hi4 := hk4.blk hx3.i (fun e => by have e' : bx + 1 = xs := e; omega)
  have HKK := Lib.hid (HK3.out.trans_ hk4 (fun i e => .inr (by have e' : i = xs := e; omega)))
  have s0 : ((w3.setCell ⟨xs, 0, none⟩ (.int .u8 0)).setCell ⟨xs, 1, none⟩ (.bool false)).cell? ⟨xs, 0, none⟩ = some (.int .u8 0) := hz4.cell 0
  have s1 : ((w3.setCell ⟨xs, 0, none⟩ (.int .u8 0)).setCell ⟨xs, 1, none⟩ (.bool false)).cell? ⟨xs, 1, none⟩ = some (.bool false) := hz4.cell 1
  have t0 : ((w3.setCell ⟨xs, 0, none⟩ (.int .u8 0)).setCell ⟨xs, 1, none⟩ (.bool false)).cell? ⟨bx + 1, 11, none⟩ = some (.int .u8 gt) := hi4.cell 11
  have t1 : ((w3.setCell ⟨xs, 0, none⟩ (.int .u8 0)).setCell ⟨xs, 1, none⟩ (.bool false)).cell? ⟨bx + 1, 11 + 1, none⟩ = some (.bool gm) := hi4.cell 12
  have t2 : ((w3.setCell ⟨xs, 0, none⟩ (.int .u8 0)).setCell ⟨xs, 1, none⟩ (.bool false)).cell? ⟨bx + 1, 2, none⟩ = some (.int .u8 k) := hi4.cell 2
  have t3 : ((w3.setCell ⟨xs, 0, none⟩ (.int .u8 0)).setCell ⟨xs, 1, none⟩ (.bool false)).cell? ⟨bx, 0, none⟩ = some (.int .u8 3) := he4.cell 0
  clear hxne hxs hz3 hx3 hk4 hz4 he4 hi4 HX HX2 HZ HO HB2 HBA
  by_cases hg : (0 : Int) = gt
  · subst hg
    cases gm <;> (go_wp2_with fail; go_ret; exact ⟨rfl, HKK.out⟩)
  · have hg1 : ((0 : Int) = gt) = False := eq_false hg
    have hg2 : ((0 : Int) == gt) = false := beq_eq_false_iff_ne.2 hg
    clear hg
    go_wp2_with fail
    go_ret
    exact ⟨rfl, HKK.out⟩
set_option maxRecDepth 100000 in
set_option maxHeartbeats 3200000 in
theorem fits_glob_in (a : Nat) (gt0 : Int) (gm0 : Bool) (t lo hi : Int) (hown : Own w B 149 5 AnyV gl n F) (hn : n ≤ 65536) (ha : a < n) (f0 : F (a * 5) = .int .u8 gt0) (f1 : F (a * 5 + 1) = .bool gm0) (f2 : F (a * 5 + 2) = .int .u8 t) (f3 : F (a * 5 + 3) = .int .u64 lo) (f4 : F (a * 5 + 4) = .int .u64 hi) (s1 s2 : ByteArray) (k fi wl wn wx : Int) (wb : Bool) (mn mx : Int) (mb : Bool) (gt : Int) (gm : Bool) (P R : Option Addr) (mp mr cp cr : Nat) (hb : Blk w sb 132 (stCells fl tl ml gl el dl il)) :
    Calls Tryz.prog 10 #[.pointer (some ⟨sb, 0, none⟩), .agg #[.int .u8 3, .int .i64 (a : Int)], .agg #[.string s1, .string s2, .int .u8 k, .int .u32 fi, .int .u8 wl, .int .u32 wn, .int .u32 wx, .bool wb, .int .u32 mn, .int .u32 mx, .bool mb, .int .u8 gt, .bool gm], .agg #[.slice P mp cp, .slice R mr cr]] w fun e w' => e = .returned (.int .i64 (fitR ((3 : Int) == k) ((gt0 == gt) && (gm0 == gm)))) ∧ Kept S0 w w' := by
  have hx := fbox_new w 3 (a : Int) #[.string s1, .string s2, .int .u8 k, .int .u32 fi, .int .u8 wl, .int .u32 wn, .int .u32 wx, .bool wb, .int .u32 mn, .int .u32 mx, .bool mb, .int .u8 gt, .bool gm] #[.slice P mp cp, .slice R mr cr]
  have hka : Kept S0 w (((w.alloc (.cells #[.int .u8 3, .int .i64 (a : Int)] 25)).alloc (.cells #[.string s1, .string s2, .int .u8 k, .int .u32 fi, .int .u8 wl, .int .u32 wn, .int .u32 wx, .bool wb, .int .u32 mn, .int .u32 mx, .bool mb, .int .u8 gt, .bool gm] 35)).alloc (.cells #[.slice P mp cp, .slice R mr cr] 38)) := (((Kept.refl S0 w).alloc _).alloc _).alloc _
  have hba := hka.blk hb (fun x => x)
  have hkb := hka.alloc (.cells #[.int .u8 0, .bool false] 33)
  have HO := Lib.hid (hown.kept hkb (fun _ _ x => x))
  have HBA := Lib.hid hba
  have HB2 := Lib.hid (hkb.blk hb (fun x => x))
  have HX := Lib.hid hx
  have HK := Lib.hid hkb
  have HF0 := Lib.hid f0
  have HF1 := Lib.hid f1
  have HF2 := Lib.hid f2
  have HF3 := Lib.hid f3
  have HF4 := Lib.hid f4
  clear f0 f1 f2 f3 f4
  have HX2 := Lib.hid (hx.kept ((Kept.refl S0 _).alloc (.cells #[.int .u8 0, .bool false] 33)))
  have HZ := Lib.hid (Blk.new (((w.alloc (.cells #[.int .u8 3, .int .i64 (a : Int)] 25)).alloc (.cells #[.string s1, .string s2, .int .u8 k, .int .u32 fi, .int .u8 wl, .int .u32 wn, .int .u32 wx, .bool wb, .int .u32 mn, .int .u32 mx, .bool mb, .int .u8 gt, .bool gm] 35)).alloc (.cells #[.slice P mp cp, .slice R mr cr] 38)) 33 #[.int .u8 0, .bool false])
  have HSZ := Lib.hid (show (((w.alloc (.cells #[.int .u8 3, .int .i64 (a : Int)] 25)).alloc (.cells #[.string s1, .string s2, .int .u8 k, .int .u32 fi, .int .u8 wl, .int .u32 wn, .int .u32 wx, .bool wb, .int .u32 mn, .int .u32 mx, .bool mb, .int .u8 gt, .bool gm] 35)).alloc (.cells #[.slice P mp cp, .slice R mr cr] 38)).heap.size = w.heap.size + 3 by simp)
  clear hb hba hx hka hown hkb
  go_enter Tryz.func10, Tryz.ntmps10
  go_wp2_with fail
  generalize (((w.alloc (.cells #[.int .u8 3, .int .i64 (a : Int)] 25)).alloc (.cells #[.string s1, .string s2, .int .u8 k, .int .u32 fi, .int .u8 wl, .int .u32 wn, .int .u32 wx, .bool wb, .int .u32 mn, .int .u32 mx, .bool mb, .int .u8 gt, .bool gm] 35)).alloc (.cells #[.slice P mp cp, .slice R mr cr] 38)) = wa at *
  generalize hbx : w.heap.size = bx at *
  have c0 : wa.cell? ⟨sb, 0, none⟩ = some (.bool true) := HBA.out.cell 0
  refine (off_made _ _ c0).mono ?_
  rintro e w1 ⟨rfl, rfl⟩
  have e0 : wa.cell? ⟨bx, 0, none⟩ = some (.int .u8 3) := HX.out.e.cell 0
  have e1 : (wa.alloc (.cells #[.int .u8 0, .bool false] 33)).cell? ⟨bx, 1, none⟩ = some (.int .i64 (a : Int)) := HX2.out.e.cell 1
  clear c0
  go_wp2_with fail
  clear e0 e1
  refine (getglob_in a gt0 gm0 t lo hi HB2.out HO.out hn ha HF0.out HF1.out HF2.out HF3.out HF4.out).mono ?_
  rintro e w3 ⟨rfl, hk3⟩
  generalize hxs : wa.heap.size = xs at *
  have HK3 := Lib.hid (HK.out.then0 hk3)
  have hz3 := hk3.blk HZ.out (fun x => x)
  have hx3 := HX2.out.kept hk3
  clear hk3
  have f0 := hz3.frozen 0
  have g0 : w3.cell? ⟨xs, 0, none⟩ = some (.int .u8 0) := hz3.cell 0
  have f1 := hz3.frozen 1
  have g1 : w3.cell? ⟨xs, 1, none⟩ = some (.bool false) := hz3.cell 1
  have hk4 := (((Kept.refl (S1 (xs)) w3).setCell (p := ⟨xs, 0, none⟩) (.inl rfl) (.int .u8 gt0)).setCell (p := ⟨xs, 1, none⟩) (.inl rfl) (.bool gm0))
  have hz4 : Blk ((w3.setCell ⟨xs, 0, none⟩ (.int .u8 gt0)).setCell ⟨xs, 1, none⟩ (.bool gm0)) xs 33 #[.int .u8 gt0, .bool gm0] := ((hz3.set_ 0 (.int .u8 gt0)).set_ 1 (.bool gm0))
  have hxne : xs = bx + 3 := by have := HSZ.out; omega
  have he4 := hk4.blk hx3.e (fun e => by have e' : bx = xs := e; omega)
  have hi4 := hk4.blk hx3.i (fun e => by have e' : bx + 1 = xs := e; omega)
  have HKK := Lib.hid (HK3.out.trans_ hk4 (fun i e => .inr (by have e' : i = xs := e; omega)))
  have s0 : ((w3.setCell ⟨xs, 0, none⟩ (.int .u8 gt0)).setCell ⟨xs, 1, none⟩ (.bool gm0)).cell? ⟨xs, 0, none⟩ = some (.int .u8 gt0) := hz4.cell 0
  have s1 : ((w3.setCell ⟨xs, 0, none⟩ (.int .u8 gt0)).setCell ⟨xs, 1, none⟩ (.bool gm0)).cell? ⟨xs, 1, none⟩ = some (.bool gm0) := hz4.cell 1
  have t0 : ((w3.setCell ⟨xs, 0, none⟩ (.int .u8 gt0)).setCell ⟨xs, 1, none⟩ (.bool gm0)).cell? ⟨bx + 1, 11, none⟩ = some (.int .u8 gt) := hi4.cell 11
  have t1 : ((w3.setCell ⟨xs, 0, none⟩ (.int .u8 gt0)).setCell ⟨xs, 1, none⟩ (.bool gm0)).cell? ⟨bx + 1, 11 + 1, none⟩ = some (.bool gm) := hi4.cell 12
  have t2 : ((w3.setCell ⟨xs, 0, none⟩ (.int .u8 gt0)).setCell ⟨xs, 1, none⟩ (.bool gm0)).cell? ⟨bx + 1, 2, none⟩ = some (.int .u8 k) := hi4.cell 2
  have t3 : ((w3.setCell ⟨xs, 0, none⟩ (.int .u8 gt0)).setCell ⟨xs, 1, none⟩ (.bool gm0)).cell? ⟨bx, 0, none⟩ = some (.int .u8 3) := he4.cell 0
  clear hxne hxs hz3 hx3 hk4 hz4 he4 hi4 HX HX2 HZ HO HB2 HBA
  cases hk : ((3 : Int) == k)
  all_goals
    have hk1 : ((3 : Int) != k) = !((3 : Int) == k) := rfl
    rw [hk] at hk1
    have HKQ := Lib.hid hk
    by_cases hg : gt0 = gt
    · subst hg
      clear hk
      cases gm0 <;> cases gm <;> (go_wp2_with fail; go_ret; exact ⟨ret_int (by rw [HKQ.out]; simp [fitR]), HKK.out⟩)
    · have hg1 : (gt0 = gt) = False := eq_false hg
      have hg2 : (gt0 == gt) = false := beq_eq_false_iff_ne.2 hg
      have HG := Lib.hid hg2
      clear hg hk
      go_wp2_with fail
      go_ret
      exact ⟨ret_int (by rw [HKQ.out, HG.out]; simp [fitR]), HKK.out⟩
end
end Go.Proofs.YtlnkdnmeikpckaaGreat
