/- Contracts of a store's AddTable, AddMem, of the smallest table and memory. No condition. -/
import Derived.Test.YtlnkdnmeikpckaaStJ
namespace Go.Proofs.Ytlnkdnmeikpckaa
open Go.RowKit

section
variable {w : World} {sb B n : Nat} {fl tl ml gl el dl il : Value} {F : Nat → Value}

set_option maxRecDepth 100000 in
set_option maxHeartbeats 1600000 in
theorem addtable_full (hb : Blk w sb 95 (stCells fl tl ml gl el dl il)) (hown : Own w B 98 1 AnyV tl n F) (hn : 256 ≤ n) :
    Calls Try.prog 21 #[.pointer (some ⟨sb, 0, none⟩), .agg #[.int .u8 112, .int .u32 0, .int .u32 0, .bool false], .agg #[.int .u8 112, .int .u64 0, .int .u64 0]] w fun e w' => e = .returned (.tuple #[.int .i64 0, .int .i64 3]) ∧ Kept S0 w w' := by
  obtain ⟨lA, lc, hlv, _, _, _⟩ := hown.out
  subst hlv
  have hka : Kept S0 w ((w.alloc (.cells #[.int .u8 112, .int .u32 0, .int .u32 0, .bool false] 59)).alloc (.cells #[.int .u8 112, .int .u64 0, .int .u64 0] 40)) := ((Kept.refl S0 w).alloc _).alloc _
  have hb1 := hka.blk hb (fun x => x)
  have c0 : ((w.alloc (.cells #[.int .u8 112, .int .u32 0, .int .u32 0, .bool false] 59)).alloc (.cells #[.int .u8 112, .int .u64 0, .int .u64 0] 40)).cell? ⟨sb, 0, none⟩ = some (.bool true) := hb1.cell 0
  have c1 : ((w.alloc (.cells #[.int .u8 112, .int .u32 0, .int .u32 0, .bool false] 59)).alloc (.cells #[.int .u8 112, .int .u64 0, .int .u64 0] 40)).cell? ⟨sb, 2, none⟩ = some (.slice lA n lc) := hb1.cell 2
  have hB0 := (Blk.new w 59 #[.int .u8 112, .int .u32 0, .int .u32 0, .bool false]).alloc (.cells #[.int .u8 112, .int .u64 0, .int .u64 0] 40)
  have hB1 := Blk.new1 w (.cells #[.int .u8 112, .int .u32 0, .int .u32 0, .bool false] 59) 40 #[.int .u8 112, .int .u64 0, .int .u64 0]
  have d0 := hB0.cell 0
  have d1 := hB0.cell 1
  have d2 := hB0.cell 2
  have d3 := hB0.cell 3
  have e0 := hB1.cell 0
  have e1 := hB1.cell 1
  have e2 := hB1.cell 2
  clear hB0 hB1
  have HB1 := Lib.hid hb1
  have HO1 := Lib.hid (hown.kept hka (fun _ _ x => x))
  have HK := Lib.hid hka
  have hnn : decide ((256 : Int) ≤ (n : Int)) = true := decide_eq_true (by omega)
  clear hb hown hka hb1
  go_enter Try.func21, Try.ntmps21
  go_wp2_with fail
  refine (off_made _ _ c0).mono ?_
  rintro e w1 ⟨rfl, rfl⟩
  go_wp2_with fail
  go_ret2
  exact ⟨rfl, HK.out⟩

set_option maxRecDepth 100000 in
set_option maxHeartbeats 1600000 in
theorem addtable_ok (hb : Blk w sb 95 (stCells fl tl ml gl el dl il)) (hown : Own w B 98 1 AnyV tl n F) (hn : n < 256) (hB : B ≤ w.heap.size) :
    Calls Try.prog 21 #[.pointer (some ⟨sb, 0, none⟩), .agg #[.int .u8 112, .int .u32 0, .int .u32 0, .bool false], .agg #[.int .u8 112, .int .u64 0, .int .u64 0]] w fun e w' => e = .returned (.tuple #[.int .i64 (n : Int), .int .i64 0]) ∧ ∃ lv' F', Blk w' sb 95 (stCells fl lv' ml gl el dl il) ∧ Own w' B 98 1 AnyV lv' (n + 1) F' ∧ Kept (ST sb tl) w w' ∧ (lv'.ownBlock = tl.ownBlock ∨ ∃ g, lv'.ownBlock = some g ∧ w.heap.size ≤ g) := by
  obtain ⟨lA, lc, hlv, _, _, _⟩ := hown.out
  subst hlv
  have hka : Kept S0 w ((w.alloc (.cells #[.int .u8 112, .int .u32 0, .int .u32 0, .bool false] 59)).alloc (.cells #[.int .u8 112, .int .u64 0, .int .u64 0] 40)) := ((Kept.refl S0 w).alloc _).alloc _
  have hb1 := hka.blk hb (fun x => x)
  have c0 : ((w.alloc (.cells #[.int .u8 112, .int .u32 0, .int .u32 0, .bool false] 59)).alloc (.cells #[.int .u8 112, .int .u64 0, .int .u64 0] 40)).cell? ⟨sb, 0, none⟩ = some (.bool true) := hb1.cell 0
  have c1 : ((w.alloc (.cells #[.int .u8 112, .int .u32 0, .int .u32 0, .bool false] 59)).alloc (.cells #[.int .u8 112, .int .u64 0, .int .u64 0] 40)).cell? ⟨sb, 2, none⟩ = some (.slice lA n lc) := hb1.cell 2
  have hB0 := (Blk.new w 59 #[.int .u8 112, .int .u32 0, .int .u32 0, .bool false]).alloc (.cells #[.int .u8 112, .int .u64 0, .int .u64 0] 40)
  have hB1 := Blk.new1 w (.cells #[.int .u8 112, .int .u32 0, .int .u32 0, .bool false] 59) 40 #[.int .u8 112, .int .u64 0, .int .u64 0]
  have d0 := hB0.cell 0
  have d1 := hB0.cell 1
  have d2 := hB0.cell 2
  have d3 := hB0.cell 3
  have e0 := hB1.cell 0
  have e1 := hB1.cell 1
  have e2 := hB1.cell 2
  clear hB0 hB1
  have HB1 := Lib.hid hb1
  have HO1 := Lib.hid (hown.kept hka (fun _ _ x => x))
  have HK := Lib.hid hka
  have hnn : decide ((256 : Int) ≤ (n : Int)) = false := decide_eq_false (by omega)
  clear hb hown hka hb1
  go_enter Try.func21, Try.ntmps21
  go_wp2_with fail
  refine (off_made _ _ c0).mono ?_
  rintro e w1 ⟨rfl, rfl⟩
  go_wp2_with fail
  refine (newtab0 _).mono ?_
  rintro e w2 ⟨g, rfl, hk2⟩
  have HK2 := Lib.hid hk2
  clear hk2
  go_wp2_with fail
  have hb2 := HK2.out.blk HB1.out (fun x => x)
  have ho2 := HO1.out.kept HK2.out (fun _ _ x => x)
  refine (add_TAB 2 (some ⟨g, 0, none⟩) hb2 rfl ho2 (by omega) (by have h1 := HK.out.size; have h2 := HK2.out.size; omega)).mono ?_
  rintro e w3 ⟨rfl, lv', hb3, ho3, hk3, hl3⟩
  have HFIN := Lib.hid (show ∃ lv' F', Blk w3 sb 95 (stCells fl lv' ml gl el dl il) ∧ Own w3 B 98 1 AnyV lv' (n + 1) F' ∧ Kept (ST sb (.slice lA n lc)) w w3 ∧ (lv'.ownBlock = (Value.slice lA n lc).ownBlock ∨ ∃ g, lv'.ownBlock = some g ∧ w.heap.size ≤ g) from
    ⟨lv', _, hb3, ho3, ((HK.out.then0 HK2.out).of0 _).trans hk3, hl3.imp id (fun ⟨g, a, b⟩ => ⟨g, a, by have h1 := HK.out.size; have h2 := HK2.out.size; omega⟩)⟩)
  clear hb2 ho2 hb3 ho3 hk3 hl3
  go_wp2_with fail
  go_ret2
  exact ⟨rfl, HFIN.out⟩

set_option maxRecDepth 100000 in
set_option maxHeartbeats 1600000 in
theorem addmem_full (hb : Blk w sb 95 (stCells fl tl ml gl el dl il)) (hown : Own w B 101 1 AnyV ml n F) (hn : 256 ≤ n) :
    Calls Try.prog 22 #[.pointer (some ⟨sb, 0, none⟩), .agg #[.int .u32 0, .int .u32 0, .bool false]] w fun e w' => e = .returned (.tuple #[.int .i64 0, .int .i64 3]) ∧ Kept S0 w w' := by
  obtain ⟨lA, lc, hlv, _, _, _⟩ := hown.out
  subst hlv
  have hka : Kept S0 w (w.alloc (.cells #[.int .u32 0, .int .u32 0, .bool false] 57)) := (Kept.refl S0 w).alloc _
  have hb1 := hka.blk hb (fun x => x)
  have c0 : (w.alloc (.cells #[.int .u32 0, .int .u32 0, .bool false] 57)).cell? ⟨sb, 0, none⟩ = some (.bool true) := hb1.cell 0
  have c1 : (w.alloc (.cells #[.int .u32 0, .int .u32 0, .bool false] 57)).cell? ⟨sb, 3, none⟩ = some (.slice lA n lc) := hb1.cell 3
  have hB0 := Blk.new w 57 #[.int .u32 0, .int .u32 0, .bool false]
  have d0 := hB0.cell 0
  have d1 := hB0.cell 1
  have d2 := hB0.cell 2
  clear hB0
  have HB1 := Lib.hid hb1
  have HO1 := Lib.hid (hown.kept hka (fun _ _ x => x))
  have HK := Lib.hid hka
  have hnn : decide ((256 : Int) ≤ (n : Int)) = true := decide_eq_true (by omega)
  clear hb hown hka hb1
  go_enter Try.func22, Try.ntmps22
  go_wp2_with fail
  refine (off_made _ _ c0).mono ?_
  rintro e w1 ⟨rfl, rfl⟩
  go_wp2_with fail
  go_ret2
  exact ⟨rfl, HK.out⟩

set_option maxRecDepth 100000 in
set_option maxHeartbeats 1600000 in
theorem addmem_ok (hb : Blk w sb 95 (stCells fl tl ml gl el dl il)) (hown : Own w B 101 1 AnyV ml n F) (hn : n < 256) (hB : B ≤ w.heap.size) :
    Calls Try.prog 22 #[.pointer (some ⟨sb, 0, none⟩), .agg #[.int .u32 0, .int .u32 0, .bool false]] w fun e w' => e = .returned (.tuple #[.int .i64 (n : Int), .int .i64 0]) ∧ ∃ lv' F', Blk w' sb 95 (stCells fl tl lv' gl el dl il) ∧ Own w' B 101 1 AnyV lv' (n + 1) F' ∧ Kept (ST sb ml) w w' ∧ (lv'.ownBlock = ml.ownBlock ∨ ∃ g, lv'.ownBlock = some g ∧ w.heap.size ≤ g) := by
  obtain ⟨lA, lc, hlv, _, _, _⟩ := hown.out
  subst hlv
  have hka : Kept S0 w (w.alloc (.cells #[.int .u32 0, .int .u32 0, .bool false] 57)) := (Kept.refl S0 w).alloc _
  have hb1 := hka.blk hb (fun x => x)
  have c0 : (w.alloc (.cells #[.int .u32 0, .int .u32 0, .bool false] 57)).cell? ⟨sb, 0, none⟩ = some (.bool true) := hb1.cell 0
  have c1 : (w.alloc (.cells #[.int .u32 0, .int .u32 0, .bool false] 57)).cell? ⟨sb, 3, none⟩ = some (.slice lA n lc) := hb1.cell 3
  have hB0 := Blk.new w 57 #[.int .u32 0, .int .u32 0, .bool false]
  have d0 := hB0.cell 0
  have d1 := hB0.cell 1
  have d2 := hB0.cell 2
  clear hB0
  have HB1 := Lib.hid hb1
  have HO1 := Lib.hid (hown.kept hka (fun _ _ x => x))
  have HK := Lib.hid hka
  have hnn : decide ((256 : Int) ≤ (n : Int)) = false := decide_eq_false (by omega)
  clear hb hown hka hb1
  go_enter Try.func22, Try.ntmps22
  go_wp2_with fail
  refine (off_made _ _ c0).mono ?_
  rintro e w1 ⟨rfl, rfl⟩
  go_wp2_with fail
  refine (newmem0 _).mono ?_
  rintro e w2 ⟨g, rfl, hk2⟩
  have HK2 := Lib.hid hk2
  clear hk2
  go_wp2_with fail
  have hb2 := HK2.out.blk HB1.out (fun x => x)
  have ho2 := HO1.out.kept HK2.out (fun _ _ x => x)
  refine (add_MEM 3 (some ⟨g, 0, none⟩) hb2 rfl ho2 (by omega) (by have h1 := HK.out.size; have h2 := HK2.out.size; omega)).mono ?_
  rintro e w3 ⟨rfl, lv', hb3, ho3, hk3, hl3⟩
  have HFIN := Lib.hid (show ∃ lv' F', Blk w3 sb 95 (stCells fl tl lv' gl el dl il) ∧ Own w3 B 101 1 AnyV lv' (n + 1) F' ∧ Kept (ST sb (.slice lA n lc)) w w3 ∧ (lv'.ownBlock = (Value.slice lA n lc).ownBlock ∨ ∃ g, lv'.ownBlock = some g ∧ w.heap.size ≤ g) from
    ⟨lv', _, hb3, ho3, ((HK.out.then0 HK2.out).of0 _).trans hk3, hl3.imp id (fun ⟨g, a, b⟩ => ⟨g, a, by have h1 := HK.out.size; have h2 := HK2.out.size; omega⟩)⟩)
  clear hb2 ho2 hb3 ho3 hk3 hl3
  go_wp2_with fail
  go_ret2
  exact ⟨rfl, HFIN.out⟩
end
end Go.Proofs.Ytlnkdnmeikpckaa
