/- Contracts of a store's AddData, Elem, Data. No condition. -/
import Derived.Test.YtlnkdnmeikpckaaStM
namespace Go.Proofs.Ytlnkdnmeikpckaa
open Go.RowKit

section
variable {w : World} {sb B n : Nat} {fl tl ml gl el dl il : Value} {F : Nat → Value}

/-- What AddData has done. -/
structure AddedD (w w' : World) (sb B n : Nat) (fl tl ml gl el dl il : Value) (F : Nat → Value) (m : Nat) (v : Nat → UInt8) : Prop where
  ex : ∃ dl' yA yc, Blk w' sb 95 (stCells fl tl ml gl el dl' il) ∧ Own w' B 26 1 AnyV dl' (n + 1) (after n F (ecell #[.slice yA m yc])) ∧ Own w' w.heap.size 5 1 IsByte (.slice yA m yc) m (byteV v) ∧ (dl'.ownBlock = dl.ownBlock ∨ ∃ g, dl'.ownBlock = some g ∧ w.heap.size ≤ g)
  kept : Kept (ST sb dl) w w'

set_option maxRecDepth 100000 in
set_option maxHeartbeats 3200000 in
theorem adddata_ok (A : Option Addr) (m c : Nat) (v : Nat → UInt8) (hb : Blk w sb 95 (stCells fl tl ml gl el dl il)) (hown : Own w B 26 1 AnyV dl n F) (hn : n < 65536) (hB : B ≤ w.heap.size) (hA : LSl w 1 1 A m c (byteV v)) :
    Calls Try.prog 12 #[.pointer (some ⟨sb, 0, none⟩), .slice A m c] w fun e w' => e = .returned (.tuple #[.int .i64 (n : Int), .int .i64 0]) ∧ AddedD w w' sb B n fl tl ml gl el dl il F m v := by
  obtain ⟨lA, lc, hlv, _, _, _⟩ := hown.out
  subst hlv
  have c0 : w.cell? ⟨sb, 0, none⟩ = some (.bool true) := hb.cell 0
  have hfl : ∀ g, (Value.slice lA n lc).ownBlock = some g → g < w.heap.size := fun g hg => (hown.lt g hg).2
  have HFL := Lib.hid hfl
  have hsl := hb.lt
  have HA := Lib.hid hA
  have HB := Lib.hid hb
  have HO := Lib.hid hown
  clear hb hown hA hfl
  go_enter Try.func12, Try.ntmps12
  go_wp2_with fail
  refine (off_made _ _ c0).mono ?_
  rintro e w1 ⟨rfl, rfl⟩
  clear c0
  go_wp2_with fail
  refine wp_region_R (fun _ => True) [] (by kernel_rfl) ?_
  have hkd := (Kept.refl S0 w).drew
  have hS : True := trivial
  generalize w.drew = w3 at *
  refine wpAnyR_take 0 (v := ?_) rfl (by kernel_rfl) (by kernel_rfl) (by kernel_rfl) (by kernel_rfl) (fun _ _ _ h => h) hS ⟨by rfl, ?_⟩ ?_
  rotate_left; (intro w hSw; (try dsimp only at hSw); first | (go_simp; done) | (go_simp; with_reducible rfl))
  simp only [List.getElem_toArray, List.getElem_cons_zero, Act.put, List.setIfInBounds_toArray, List.set_cons_zero, List.set_cons_succ]
  refine wpAnyR_take 1 (v := ?_) rfl (by kernel_rfl) (by kernel_rfl) (by kernel_rfl) (by kernel_rfl) (fun _ _ _ h => h) hS ⟨by rfl, ?_⟩ ?_
  rotate_left; (intro w hSw; (try dsimp only at hSw); first | (go_simp; done) | (go_simp; with_reducible rfl))
  simp only [List.getElem_toArray, List.getElem_cons_zero, List.getElem_cons_succ, Act.put, List.setIfInBounds_toArray, List.set_cons_zero, List.set_cons_succ]
  refine wpAnyR_take 2 (v := ?_) rfl (by kernel_rfl) (by kernel_rfl) (by kernel_rfl) (by kernel_rfl) (fun _ _ _ h => h) hS ⟨by rfl, ?_⟩ ?_
  rotate_left; (intro w hSw; (try dsimp only at hSw); first | (go_simp; done) | (go_simp; with_reducible rfl))
  simp only [List.getElem_toArray, List.getElem_cons_zero, List.getElem_cons_succ, Act.put, List.setIfInBounds_toArray, List.set_cons_zero, List.set_cons_succ]
  refine wpAnyR_take 3 (v := ?_) rfl (by kernel_rfl) (by kernel_rfl) (by kernel_rfl) (by kernel_rfl) (fun _ _ _ h => h) hS ⟨by rfl, ?_⟩ ?_
  rotate_left; (intro w hSw; (try dsimp only at hSw); first | (go_simp; done) | (go_simp; with_reducible rfl))
  simp only [List.getElem_toArray, List.getElem_cons_zero, List.getElem_cons_succ, Act.put, List.setIfInBounds_toArray, List.set_cons_zero, List.set_cons_succ]
  refine wpAnyR_one 4 rfl (by kernel_rfl) (fun K hK => ?_)
  go_simp
  go_at_call 46
  have hA3 := HA.out.kept hkd
  refine (clone_b A m c v w3 hA3.sl hA3.z hA3.sm).mono ?_
  rintro e w4 ⟨y, rfl, hy, hk4⟩
  obtain ⟨yA, yc, hye, _, _, _⟩ := hy.out
  subst hye
  refine hK.out _ _ (fun _ => trivial) ?_
  clear hK K
  refine wpAnyR_one 5 rfl (by kernel_rfl) (fun K hK => ?_)
  go_simp
  go_at_call 45
  have hk5 := hkd.then0 hk4
  have hb4 := hk5.blk HB.out (fun x => x)
  have ho4 := HO.out.kept hk5 (fun _ _ x => x)
  refine (add_DATA 6 yA m yc hb4 rfl ho4 hn (by have := hk5.size; omega)).mono ?_
  rintro e w5 ⟨rfl, dl', hb5, ho5, hk6, hl5⟩
  have hyb : ∀ g, (Value.slice yA m yc).ownBlock = some g → ¬ ST sb (.slice lA n lc) g := fun g hg e => by
    have h1 := (hy.lt g hg).1
    have h2 := hkd.size
    rcases e with e | e
    · have e' : g = sb := e
      omega
    · have := HFL.out g e; omega
  have HFIN := Lib.hid (show AddedD w w5 sb B n fl tl ml gl el (.slice lA n lc) il F m v from ⟨⟨dl', yA, yc, hb5, ho5, (hy.kept hk6 hyb).mono (by have := hkd.size; omega), hl5.imp id (fun ⟨g, a, b⟩ => ⟨g, a, by have := hk5.size; omega⟩)⟩, (hk5.of0 _).trans hk6⟩)
  clear hy hk4 hk5 hb4 ho4 hb5 ho5 hk6 hl5 hyb hkd hA3
  refine hK.out _ _ (fun _ => trivial) ?_
  clear hK K
  refine wpAnyR_take 6 (v := ?_) rfl (by kernel_rfl) (by kernel_rfl) (by kernel_rfl) (by kernel_rfl) (fun _ _ _ h => h) hS ⟨by rfl, ?_⟩ ?_
  rotate_left; (intro w hSw; (try dsimp only at hSw); first | (go_simp; done) | (go_simp; with_reducible rfl))
  simp only [List.getElem_toArray, List.getElem_cons_zero, List.getElem_cons_succ, Act.put, List.setIfInBounds_toArray, List.set_cons_zero, List.set_cons_succ]
  refine wpAnyR_take 7 (v := ?_) rfl (by kernel_rfl) (by kernel_rfl) (by kernel_rfl) (by kernel_rfl) (fun _ _ _ h => h) hS ⟨by rfl, ?_⟩ ?_
  rotate_left; (intro w hSw; (try dsimp only at hSw); first | (go_simp; done) | (go_simp; with_reducible rfl))
  simp only [List.getElem_toArray, List.getElem_cons_zero, List.getElem_cons_succ, Act.put, List.setIfInBounds_toArray, List.set_cons_zero, List.set_cons_succ]
  refine wpAnyR_take 8 (v := ?_) rfl (by kernel_rfl) (by kernel_rfl) (by kernel_rfl) (by kernel_rfl) (fun _ _ _ h => h) hS ⟨by rfl, ?_⟩ ?_
  rotate_left; (intro w hSw; (try dsimp only at hSw); first | (go_simp; done) | (go_simp; with_reducible rfl))
  simp only [List.getElem_toArray, List.getElem_cons_zero, List.getElem_cons_succ, Act.put, List.setIfInBounds_toArray, List.set_cons_zero, List.set_cons_succ]
  refine wpAnyR_take 9 (v := ?_) rfl (by kernel_rfl) (by kernel_rfl) (by kernel_rfl) (by kernel_rfl) (fun _ _ _ h => h) hS ⟨by rfl, ?_⟩ ?_
  rotate_left; (intro w hSw; (try dsimp only at hSw); first | (go_simp; done) | (go_simp; with_reducible rfl))
  simp only [List.getElem_toArray, List.getElem_cons_zero, List.getElem_cons_succ, Act.put, List.setIfInBounds_toArray, List.set_cons_zero, List.set_cons_succ]
  clear hS
  refine wpAnyR_done (by kernel_rfl) ?_ _
  go_wp2_with fail
  go_ret2
  exact ⟨rfl, HFIN.out⟩

set_option maxRecDepth 100000 in
set_option maxHeartbeats 1600000 in
theorem getelem_in (a : Nat) (t : Int) (A : Option Addr) (m c : Nat) (v : Nat → V3) (hb : Blk w sb 95 (stCells fl tl ml gl el dl il)) (hown : Own w B 130 2 AnyV el n F) (hn : n ≤ 65536) (ha : a < n) (hF0 : F (a * 2) = .int .u8 t) (hF1 : F (a * 2 + 1) = .slice A m c) (hA : LSl w 3 24 A m c (vcell v)) :
    Calls Try.prog 16 #[.pointer (some ⟨sb, 0, none⟩), .int .i64 (a : Int)] w fun e w' => ∃ y, e = .returned (.tuple #[y, .int .i64 0]) ∧ Own w' w.heap.size 40 3 AnyV y m (vcell v) ∧ Kept S0 w w' := by
  obtain ⟨g, fc, hfl, _, _⟩ := hown.is_some (by omega)
  subst hfl
  have c0 : w.cell? ⟨sb, 0, none⟩ = some (.bool true) := hb.cell 0
  have c1 : w.cell? ⟨sb, 5, none⟩ = some (.slice (some ⟨g, 0, none⟩) n fc) := hb.cell 5
  have g0 := (hown.rowcell (j := a * 2) (by omega)).trans (congrArg some hF0)
  have g1 := (hown.rowcell (j := a * 2 + 1) (by omega)).trans (congrArg some hF1)
  have HA := Lib.hid hA
  clear hb hown hA hF0 hF1
  go_enter Try.func16, Try.ntmps16
  go_wp2_with fail
  refine (off_made _ _ c0).mono ?_
  rintro e w1 ⟨rfl, rfl⟩
  go_wp2_with fail
  refine (at_ELEM_in a g c1 hn ha).mono ?_
  rintro e w1 ⟨rfl, rfl⟩
  go_wp2_with fail
  refine (clone_v A m c v w HA.out.sl HA.out.z HA.out.sm).mono ?_
  rintro e w2 ⟨y, rfl, hy, hk2⟩
  obtain ⟨yA, yc, hye, _, _, _⟩ := hy.out
  subst hye
  have HY := Lib.hid hy
  have HK := Lib.hid hk2
  clear hy hk2 c0 c1 g0 g1
  go_wp2_with fail
  go_ret2
  exact ⟨_, rfl, HY.out, HK.out⟩

set_option maxRecDepth 100000 in
set_option maxHeartbeats 1600000 in
theorem getelem_out (a : Int) (hb : Blk w sb 95 (stCells fl tl ml gl el dl il)) (hown : Own w B 130 2 AnyV el n F) (hn : n ≤ 65536) (ha : a < 0 ∨ (n : Int) ≤ a) :
    Calls Try.prog 16 #[.pointer (some ⟨sb, 0, none⟩), .int .i64 a] w fun e w' => e = .returned (.tuple #[.slice none 0 0, .int .i64 11]) ∧ w = w' := by
  obtain ⟨lA, lc, hlv, _, _, _⟩ := hown.out
  subst hlv
  have c0 : w.cell? ⟨sb, 0, none⟩ = some (.bool true) := hb.cell 0
  have c1 : w.cell? ⟨sb, 5, none⟩ = some (.slice lA n lc) := hb.cell 5
  clear hb hown
  go_enter Try.func16, Try.ntmps16
  go_wp2_with fail
  refine (off_made _ _ c0).mono ?_
  rintro e w1 ⟨rfl, rfl⟩
  go_wp2_with fail
  refine (at_ELEM_out a lA c1 hn ha).mono ?_
  rintro e w1 ⟨rfl, rfl⟩
  go_wp2_with fail
  go_ret2
  exact ⟨rfl, rfl⟩

set_option maxRecDepth 100000 in
set_option maxHeartbeats 1600000 in
theorem getdata_in (a : Nat) (A : Option Addr) (m c : Nat) (v : Nat → UInt8) (hb : Blk w sb 95 (stCells fl tl ml gl el dl il)) (hown : Own w B 26 1 AnyV dl n F) (hn : n ≤ 65536) (ha : a < n) (hF : F a = .slice A m c) (hA : LSl w 1 1 A m c (byteV v)) :
    Calls Try.prog 18 #[.pointer (some ⟨sb, 0, none⟩), .int .i64 (a : Int)] w fun e w' => ∃ y, e = .returned (.tuple #[y, .int .i64 0]) ∧ Own w' w.heap.size 5 1 IsByte y m (byteV v) ∧ Kept S0 w w' := by
  obtain ⟨g, fc, hfl, _, _⟩ := hown.is_some (by omega)
  subst hfl
  have c0 : w.cell? ⟨sb, 0, none⟩ = some (.bool true) := hb.cell 0
  have c1 : w.cell? ⟨sb, 6, none⟩ = some (.slice (some ⟨g, 0, none⟩) n fc) := hb.cell 6
  have g0 := (hown.rowcell (j := a) (by omega)).trans (congrArg some hF)
  have HA := Lib.hid hA
  clear hb hown hA hF
  go_enter Try.func18, Try.ntmps18
  go_wp2_with fail
  refine (off_made _ _ c0).mono ?_
  rintro e w1 ⟨rfl, rfl⟩
  go_wp2_with fail
  refine (at_DATA_in a g c1 hn ha).mono ?_
  rintro e w1 ⟨rfl, rfl⟩
  go_wp2_with fail
  refine (clone_b A m c v w HA.out.sl HA.out.z HA.out.sm).mono ?_
  rintro e w2 ⟨y, rfl, hy, hk2⟩
  obtain ⟨yA, yc, hye, _, _, _⟩ := hy.out
  subst hye
  have HY := Lib.hid hy
  have HK := Lib.hid hk2
  clear hy hk2 c0 c1 g0
  go_wp2_with fail
  go_ret2
  exact ⟨_, rfl, HY.out, HK.out⟩
end
end Go.Proofs.Ytlnkdnmeikpckaa
