/- What the proofs lean on, part 3 of Do. No condition. -/
import Derived.Test.YtfmblalbcodpmaaDoorMDoa
import Derived.Test.YtfmblalbcodpmaaDoorMDob
namespace Go.Proofs.YtfmblalbcodpmaaDoor
open Go.RowKit
def RowP.arr (r : RowP) : Array Value := #[.string r.name, .string r.types, .int .u8 (r.imm : Int), .int .i64 (r.bits : Int), .bool r.plain]
def rowZ : Array Value := #[.string { data := #[] }, .string { data := #[] }, .int .u8 0, .int .i64 0, .bool false]
theorem find_tab (gs : List Grp) (hok : ∀ g ∈ gs, GOk g) (hlen : gs.length ≤ 100) (b n : Nat) (w : World) (hb : Blk w b 187 (gcells gs)) (hn : n < 65536) (hsp : SpTab w) (k : Nat) (hk : k = gs.length) :
    Calls Tryd.prog 102 #[.slice (some ⟨b, 0, none⟩) k k, .int .i64 (n : Int)] w fun e w' => e = .returned (.tuple #[.agg ((findP gs n).getD RowP.zero).arr, .bool (findP gs n).isSome]) ∧ Kept S0 w w' := by
  subst hk
  refine (find_any gs b n w hb hok hlen hn hsp).mono ?_
  rintro e w' ⟨rfl, hk⟩
  exact ⟨by rw [rowRet_eq]; rfl, hk⟩
theorem setRow (r : RowP) {w a : World} {b t : Nat} (hb : Blk w b t rowZ) (hk : Kept S0 a w) (hbs : a.heap.size ≤ b) :
    Blk (((((w.setCell ⟨b, 0, none⟩ (.string r.name)).setCell ⟨b, 1, none⟩ (.string r.types)).setCell ⟨b, 2, none⟩ (.int .u8 (r.imm : Int))).setCell ⟨b, 3, none⟩ (.int .i64 (r.bits : Int))).setCell ⟨b, 4, none⟩ (.bool r.plain)) b t r.arr ∧
    Kept S0 a (((((w.setCell ⟨b, 0, none⟩ (.string r.name)).setCell ⟨b, 1, none⟩ (.string r.types)).setCell ⟨b, 2, none⟩ (.int .u8 (r.imm : Int))).setCell ⟨b, 3, none⟩ (.int .i64 (r.bits : Int))).setCell ⟨b, 4, none⟩ (.bool r.plain)) :=
  ⟨((((hb.set_ 0 (.string r.name)).set_ 1 (.string r.types)).set_ 2 (.int .u8 (r.imm : Int))).set_ 3 (.int .i64 (r.bits : Int))).set_ 4 (.bool r.plain), ((((hk.setCell (p := ⟨b, 0, none⟩) (.inr hbs) _).setCell (p := ⟨b, 1, none⟩) (.inr hbs) _).setCell (p := ⟨b, 2, none⟩) (.inr hbs) _).setCell (p := ⟨b, 3, none⟩) (.inr hbs) _).setCell (p := ⟨b, 4, none⟩) (.inr hbs) _⟩
theorem setZ {w a : World} {b t : Nat} (hb : Blk w b t rowZ) (hk : Kept S0 a w) (hbs : a.heap.size ≤ b) :
    Blk (((((w.setCell ⟨b, 0, none⟩ (.string { data := #[] })).setCell ⟨b, 1, none⟩ (.string { data := #[] })).setCell ⟨b, 2, none⟩ (.int .u8 0)).setCell ⟨b, 3, none⟩ (.int .i64 0)).setCell ⟨b, 4, none⟩ (.bool false)) b t rowZ ∧
    Kept S0 a (((((w.setCell ⟨b, 0, none⟩ (.string { data := #[] })).setCell ⟨b, 1, none⟩ (.string { data := #[] })).setCell ⟨b, 2, none⟩ (.int .u8 0)).setCell ⟨b, 3, none⟩ (.int .i64 0)).setCell ⟨b, 4, none⟩ (.bool false)) := setRow RowP.zero hb hk hbs
theorem set0 (s1 s2 : ByteArray) (pl : Bool) {w a : World} {b t : Nat} (hb : Blk w b t rowZ) (hk : Kept S0 a w) (hbs : a.heap.size ≤ b) :
    Blk (((((w.setCell ⟨b, 0, none⟩ (.string s1)).setCell ⟨b, 1, none⟩ (.string s2)).setCell ⟨b, 2, none⟩ (.int .u8 0)).setCell ⟨b, 3, none⟩ (.int .i64 0)).setCell ⟨b, 4, none⟩ (.bool pl)) b t #[.string s1, .string s2, .int .u8 0, .int .i64 0, .bool pl] ∧
    Kept S0 a (((((w.setCell ⟨b, 0, none⟩ (.string s1)).setCell ⟨b, 1, none⟩ (.string s2)).setCell ⟨b, 2, none⟩ (.int .u8 0)).setCell ⟨b, 3, none⟩ (.int .i64 0)).setCell ⟨b, 4, none⟩ (.bool pl)) := setRow ⟨s1, s2, 0, 0, pl⟩ hb hk hbs
theorem shape_size (i a : Nat) (hi : i < 4) (ha : a < 32) : (shapeP i a).1.size ≤ 100 ∧ (shapeP i a).2.size ≤ 100 ∧ asciiB (shapeP i a).2 = true := by
  have h : ((List.range 4).all fun i => (List.range 32).all fun a => (shapeP i a).1.size ≤ 100 && (shapeP i a).2.size ≤ 100 && asciiB (shapeP i a).2) = true := by kernel_rfl
  have h1 := List.all_eq_true.1 (List.all_eq_true.1 h i (List.mem_range.2 hi)) a (List.mem_range.2 ha)
  simp only [Bool.and_eq_true, decide_eq_true_eq] at h1
  exact ⟨h1.1.1, h1.1.2, h1.2⟩
set_option maxRecDepth 100000 in
set_option maxHeartbeats 6400000 in
theorem vector_any (n : Nat) (w : World) (hn : n < 256) (hsp : SpTab w) : Calls Tryd.prog 101 #[.int .i64 (n : Int)] w fun e w' => e = .returned (.tuple #[.agg (vectorR n).1.arr, .bool (vectorR n).2]) ∧ Kept S0 w w' := by
  have HS := Lib.hid hsp
  have HK := Lib.hid ((Kept.refl S0 w).alloc (.cells #[.string { data := #[] }, .string { data := #[] }, .int .u8 0, .int .i64 0, .bool false] 155))
  have HR := Lib.hid (Blk.new w 155 #[.string { data := #[] }, .string { data := #[] }, .int .u8 0, .int .i64 0, .bool false])
  clear hsp
  by_cases h96 : n < 96
  · have h96i : (n : Int) < 96 := by omega
    have HV := Lib.hid (show vectorR n = ((findP t_vectors n).getD RowP.zero, (findP t_vectors n).isSome) by unfold vectorR; rw [if_pos h96])
    go_enter Tryd.func101, Tryd.ntmps101
    go_wp2_with fail
    generalize (w.alloc (.cells #[.string { data := #[] }, .string { data := #[] }, .int .u8 0, .int .i64 0, .bool false] 155)) = w1 at *
    refine (vectors_any w1).mono ?_
    rintro e w2 ⟨rfl, rfl⟩
    go_wp2_with fail
    refine (find_tab t_vectors gok_vectors (by decide) _ n _ (Blk.new w1 187 (gcells t_vectors)) (by omega) (HS.out.kept0 (HK.out.alloc _)) 17 rfl).mono ?_
    rintro e w3 ⟨rfl, hk3⟩
    have HRN := Lib.hid (hk3.blk (HR.out.alloc _) (fun x => x))
    have HKN := Lib.hid ((HK.out.alloc (.cells (gcells t_vectors) 187)).then0 hk3)
    clear hk3
    unfold RowP.arr
    have r0 := HRN.out.cell 0
    have r1 := HRN.out.cell 1
    have r2 := HRN.out.cell 2
    have r3 := HRN.out.cell 3
    have r4 := HRN.out.cell 4
    have q0 := HRN.out.frozen 0
    have q1 := HRN.out.frozen 1
    have q2 := HRN.out.frozen 2
    have q3 := HRN.out.frozen 3
    have q4 := HRN.out.frozen 4
    go_wp2_with fail
    obtain ⟨hf, hkf⟩ := setRow ((findP t_vectors n).getD RowP.zero) HRN.out HKN.out (Nat.le_refl _)
    clear r0 r1 r2 r3 r4 q0 q1 q2 q3 q4
    have r0 := hf.cell 0
    have r1 := hf.cell 1
    have r2 := hf.cell 2
    have r3 := hf.cell 3
    have r4 := hf.cell 4
    exact bodyPost_ret (v := .tuple #[.agg ((findP t_vectors n).getD RowP.zero).arr, .bool (findP t_vectors n).isSome]) (by simp [results, Tryd.results101, go_sem, RowP.arr, r0, r1, r2, r3, r4]) rfl ⟨by rw [HV.out], hkf⟩
  · have h96i : ¬ (n : Int) < 96 := by omega
    by_cases hso : (findP t_odd n).isSome = true
    · have HSO := Lib.hid hso
      have HV := Lib.hid (show vectorR n = ((findP t_odd n).getD RowP.zero, true) by unfold vectorR; rw [if_neg h96, if_pos hso])
      clear hso
      go_enter Tryd.func101, Tryd.ntmps101
      go_wp2_with fail
      generalize (w.alloc (.cells #[.string { data := #[] }, .string { data := #[] }, .int .u8 0, .int .i64 0, .bool false] 155)) = w1 at *
      refine (odd_any w1).mono ?_
      rintro e w2 ⟨rfl, rfl⟩
      go_wp2_with fail
      refine (find_tab t_odd gok_odd (by decide) _ n _ (Blk.new w1 187 (gcells t_odd)) (by omega) (HS.out.kept0 (HK.out.alloc _)) 20 rfl).mono ?_
      rintro e w3 ⟨rfl, hk3⟩
      have HRN := Lib.hid (hk3.blk (HR.out.alloc _) (fun x => x))
      have HKN := Lib.hid ((HK.out.alloc (.cells (gcells t_odd) 187)).then0 hk3)
      clear hk3
      unfold RowP.arr
      generalize (findP t_odd n).getD RowP.zero = ro at *
      have HX := Lib.hid (Blk.new w3 155 #[.string ro.name, .string ro.types, .int .u8 (ro.imm : Int), .int .i64 (ro.bits : Int), .bool ro.plain])
      have hka : Kept S0 w3 (w3.alloc (.cells #[.string ro.name, .string ro.types, .int .u8 (ro.imm : Int), .int .i64 (ro.bits : Int), .bool ro.plain] 155)) := (Kept.refl S0 w3).alloc _
      replace HRN := Lib.hid (hka.blk HRN.out (fun x => x))
      replace HKN := Lib.hid (HKN.out.then0 hka)
      clear hka
      rw [HSO.out]
      have x0 := HX.out.cell 0
      have x1 := HX.out.cell 1
      have x2 := HX.out.cell 2
      have x3 := HX.out.cell 3
      have x4 := HX.out.cell 4
      have r0 := HRN.out.cell 0
      have r1 := HRN.out.cell 1
      have r2 := HRN.out.cell 2
      have r3 := HRN.out.cell 3
      have r4 := HRN.out.cell 4
      have q0 := HRN.out.frozen 0
      have q1 := HRN.out.frozen 1
      have q2 := HRN.out.frozen 2
      have q3 := HRN.out.frozen 3
      have q4 := HRN.out.frozen 4
      go_wp2_with fail
      obtain ⟨hf, hkf⟩ := setRow (ro) HRN.out HKN.out (Nat.le_refl _)
      clear r0 r1 r2 r3 r4 q0 q1 q2 q3 q4
      have r0 := hf.cell 0
      have r1 := hf.cell 1
      have r2 := hf.cell 2
      have r3 := hf.cell 3
      have r4 := hf.cell 4
      exact bodyPost_ret (v := .tuple #[.agg (ro).arr, .bool true]) (by simp [results, Tryd.results101, go_sem, RowP.arr, r0, r1, r2, r3, r4]) rfl ⟨by rw [HV.out], hkf⟩
    · have hso' : (findP t_odd n).isSome = false := by simpa using hso
      have HSO := Lib.hid hso'
      by_cases h224 : 224 ≤ n
      · have h224i : (224 : Int) ≤ (n : Int) := by omega
        have HV := Lib.hid (show vectorR n = (RowP.zero, false) by unfold vectorR; rw [if_neg h96, if_neg hso, if_pos h224])
        clear hso hso'
        go_enter Tryd.func101, Tryd.ntmps101
        go_wp2_with fail
        generalize (w.alloc (.cells #[.string { data := #[] }, .string { data := #[] }, .int .u8 0, .int .i64 0, .bool false] 155)) = w1 at *
        refine (odd_any w1).mono ?_
        rintro e w2 ⟨rfl, rfl⟩
        go_wp2_with fail
        refine (find_tab t_odd gok_odd (by decide) _ n _ (Blk.new w1 187 (gcells t_odd)) (by omega) (HS.out.kept0 (HK.out.alloc _)) 20 rfl).mono ?_
        rintro e w3 ⟨rfl, hk3⟩
        have HRN := Lib.hid (hk3.blk (HR.out.alloc _) (fun x => x))
        have HKN := Lib.hid ((HK.out.alloc (.cells (gcells t_odd) 187)).then0 hk3)
        clear hk3
        unfold RowP.arr
        generalize (findP t_odd n).getD RowP.zero = ro at *
        have HX := Lib.hid (Blk.new w3 155 #[.string ro.name, .string ro.types, .int .u8 (ro.imm : Int), .int .i64 (ro.bits : Int), .bool ro.plain])
        have hka : Kept S0 w3 (w3.alloc (.cells #[.string ro.name, .string ro.types, .int .u8 (ro.imm : Int), .int .i64 (ro.bits : Int), .bool ro.plain] 155)) := (Kept.refl S0 w3).alloc _
        replace HRN := Lib.hid (hka.blk HRN.out (fun x => x))
        replace HKN := Lib.hid (HKN.out.then0 hka)
        clear hka
        rw [HSO.out]
        have r0 := HRN.out.cell 0
        have r1 := HRN.out.cell 1
        have r2 := HRN.out.cell 2
        have r3 := HRN.out.cell 3
        have r4 := HRN.out.cell 4
        have q0 := HRN.out.frozen 0
        have q1 := HRN.out.frozen 1
        have q2 := HRN.out.frozen 2
        have q3 := HRN.out.frozen 3
        have q4 := HRN.out.frozen 4
        go_wp2_with fail
        obtain ⟨hf, hkf⟩ := setZ HRN.out HKN.out (Nat.le_refl _)
        clear r0 r1 r2 r3 r4 q0 q1 q2 q3 q4
        have r0 := hf.cell 0
        have r1 := hf.cell 1
        have r2 := hf.cell 2
        have r3 := hf.cell 3
        have r4 := hf.cell 4
        exact bodyPost_ret (v := .tuple #[.agg rowZ, .bool false]) (by simp [results, Tryd.results101, go_sem, rowZ, r0, r1, r2, r3, r4]) rfl ⟨by rw [HV.out]; rfl, hkf⟩
      · have h224i : ¬ (224 : Int) ≤ (n : Int) := by omega
        have HV := Lib.hid (show vectorR n = (⟨wordP ⟨#[105, 56, 120, 49, 54, 46, 32, 105, 49, 54, 120, 56, 46, 32, 105, 51, 50, 120, 52, 46, 32, 105, 54, 52, 120, 50, 46]⟩ ((n - 96) / 32) ++ (shapeP ((n - 96) / 32) ((n - 96) % 32)).1, (shapeP ((n - 96) / 32) ((n - 96) % 32)).2, 0, 0, true⟩, !(shapeP ((n - 96) / 32) ((n - 96) % 32)).1.data.toList.isEmpty) by unfold vectorR; rw [if_neg h96, if_neg hso, if_neg h224])
        clear hso hso'
        obtain ⟨i, hi⟩ : ∃ i, (n - 96) / 32 = i := ⟨_, rfl⟩
        obtain ⟨a, ha⟩ : ∃ a, (n - 96) % 32 = a := ⟨_, rfl⟩
        have hi4 : i < 4 := by omega
        have ha32 : a < 32 := by omega
        have un : IntKind.i64.wrap ((n : Int) - 96) = (n : Int) - 96 := IntWalk.i64_in _ (by omega)
        have ud : ((n : Int) - 96) / 32 = (i : Int) := by omega
        have um : ((n : Int) - 96) % 32 = (a : Int) := by omega
        have udt : Int.tdiv ((n : Int) - 96) 32 = (i : Int) := by rw [Int.tdiv_eq_ediv_of_nonneg (by omega)]; exact ud
        have umt : Int.tmod ((n : Int) - 96) 32 = (a : Int) := by rw [Int.tmod_eq_emod_of_nonneg (by omega)]; exact um
        have ui : IntKind.i64.wrap (i : Int) = (i : Int) := IntWalk.i64_in _ (by omega)
        rw [hi, ha] at HV
        clear hi ha
        go_enter Tryd.func101, Tryd.ntmps101
        go_wp2_with fail
        generalize (w.alloc (.cells #[.string { data := #[] }, .string { data := #[] }, .int .u8 0, .int .i64 0, .bool false] 155)) = w1 at *
        refine (odd_any w1).mono ?_
        rintro e w2 ⟨rfl, rfl⟩
        go_wp2_with fail
        refine (find_tab t_odd gok_odd (by decide) _ n _ (Blk.new w1 187 (gcells t_odd)) (by omega) (HS.out.kept0 (HK.out.alloc _)) 20 rfl).mono ?_
        rintro e w3 ⟨rfl, hk3⟩
        have HRN := Lib.hid (hk3.blk (HR.out.alloc _) (fun x => x))
        have HKN := Lib.hid ((HK.out.alloc (.cells (gcells t_odd) 187)).then0 hk3)
        clear hk3
        unfold RowP.arr
        generalize (findP t_odd n).getD RowP.zero = ro at *
        have HX := Lib.hid (Blk.new w3 155 #[.string ro.name, .string ro.types, .int .u8 (ro.imm : Int), .int .i64 (ro.bits : Int), .bool ro.plain])
        have hka : Kept S0 w3 (w3.alloc (.cells #[.string ro.name, .string ro.types, .int .u8 (ro.imm : Int), .int .i64 (ro.bits : Int), .bool ro.plain] 155)) := (Kept.refl S0 w3).alloc _
        replace HRN := Lib.hid (hka.blk HRN.out (fun x => x))
        replace HKN := Lib.hid (HKN.out.then0 hka)
        clear hka
        rw [HSO.out]
        have r0 := HRN.out.cell 0
        have r1 := HRN.out.cell 1
        have r2 := HRN.out.cell 2
        have r3 := HRN.out.cell 3
        have r4 := HRN.out.cell 4
        have q0 := HRN.out.frozen 0
        have q1 := HRN.out.frozen 1
        have q2 := HRN.out.frozen 2
        have q3 := HRN.out.frozen 3
        have q4 := HRN.out.frozen 4
        go_wp2_with fail
        refine (shape_any i a _ hi4 ha32 (HS.out.kept0 HKN.out)).mono ?_
        rintro e w5 ⟨rfl, hk5⟩
        replace HRN := Lib.hid (hk5.blk HRN.out (fun x => x))
        replace HKN := Lib.hid (HKN.out.then0 hk5)
        clear hk5
        go_wp2_with fail
        refine (wordZ _ _ _ (by omega) (by omega) (by decide) (by decide) (by kernel_rfl) (HS.out.kept0 HKN.out)).mono ?_
        rintro e w6 ⟨rs, rfl, hrs, hrz, hk6⟩
        replace HRN := Lib.hid (hk6.blk HRN.out (fun x => x))
        replace HKN := Lib.hid (HKN.out.then0 hk6)
        have HRS := Lib.hid hrs
        clear hk6 hrs
        obtain ⟨hz1, _, _⟩ := shape_size i a hi4 ha32
        generalize shapeP i a = sh at *
        obtain ⟨s1, s2⟩ := sh
        simp only at hz1
        have hcat : ¬ 9223372036854775807 < rs.size + s1.size := by omega
        have r0 := HRN.out.cell 0
        have r1 := HRN.out.cell 1
        have r2 := HRN.out.cell 2
        have r3 := HRN.out.cell 3
        have r4 := HRN.out.cell 4
        have q0 := HRN.out.frozen 0
        have q1 := HRN.out.frozen 1
        have q2 := HRN.out.frozen 2
        have q3 := HRN.out.frozen 3
        have q4 := HRN.out.frozen 4
        go_wp2_with fail
        obtain ⟨hf, hkf⟩ := set0 (rs ++ s1) s2 true HRN.out HKN.out (Nat.le_refl _)
        clear r0 r1 r2 r3 r4 q0 q1 q2 q3 q4
        have r0 := hf.cell 0
        have r1 := hf.cell 1
        have r2 := hf.cell 2
        have r3 := hf.cell 3
        have r4 := hf.cell 4
        exact bodyPost_ret (v := .tuple #[.agg #[.string (rs ++ s1), .string s2, .int .u8 0, .int .i64 0, .bool true], .bool !s1.toList.isEmpty]) (by simp [results, Tryd.results101, go_sem, r0, r1, r2, r3, r4]) rfl ⟨by rw [HV.out, Lib.toList_data, HRS.out]; rfl, hkf⟩
set_option maxRecDepth 100000 in
set_option maxHeartbeats 6400000 in
theorem look_any (o : Nat) (w : World) (ho : o < 65536) (hsp : SpTab w) : Calls Tryd.prog 85 #[.int .u16 (o : Int)] w fun e w' => e = .returned (.tuple #[.agg (lookR o).1.arr, .bool (lookR o).2]) ∧ Kept S0 w w' := by
  have uo : IntKind.i64.wrap (o : Int) = (o : Int) := IntWalk.i64_in _ (by omega)
  have HS := Lib.hid hsp
  have HK := Lib.hid ((Kept.refl S0 w).alloc (.cells #[.string { data := #[] }, .string { data := #[] }, .int .u8 0, .int .i64 0, .bool false] 155))
  have HR := Lib.hid (Blk.new w 155 #[.string { data := #[] }, .string { data := #[] }, .int .u8 0, .int .i64 0, .bool false])
  clear hsp
  by_cases hv : 64768 ≤ o ∧ o ≤ 65023
  · have v1 : 64768 ≤ o := hv.1
    have v2 : o ≤ 65023 := hv.2
    have HV := Lib.hid (show lookR o = vectorR (o - 64768) by unfold lookR; rw [if_pos hv])
    obtain ⟨n, rfl⟩ : ∃ n, o = 64768 + n := ⟨o - 64768, by omega⟩
    rw [show 64768 + n - 64768 = n by omega] at HV
    have un : IntKind.i64.wrap (64768 + (n : Int) - 64768) = (n : Int) := by rw [IntWalk.i64_in _ (by omega)]; omega
    have w1' : (64768 : Int) ≤ ((64768 + n : Nat) : Int) := by omega
    have w2' : ((64768 + n : Nat) : Int) ≤ 65023 := by omega
    clear hv
    go_enter Tryd.func85, Tryd.ntmps85
    go_wp2_with fail
    generalize (w.alloc (.cells #[.string { data := #[] }, .string { data := #[] }, .int .u8 0, .int .i64 0, .bool false] 155)) = w1 at *
    refine (vector_any n w1 (by omega) (HS.out.kept0 HK.out)).mono ?_
    rintro e w3 ⟨rfl, hk3⟩
    have HRN := Lib.hid (hk3.blk HR.out (fun x => x))
    have HKN := Lib.hid (HK.out.then0 hk3)
    clear hk3
    unfold RowP.arr
    have r0 := HRN.out.cell 0
    have r1 := HRN.out.cell 1
    have r2 := HRN.out.cell 2
    have r3 := HRN.out.cell 3
    have r4 := HRN.out.cell 4
    have q0 := HRN.out.frozen 0
    have q1 := HRN.out.frozen 1
    have q2 := HRN.out.frozen 2
    have q3 := HRN.out.frozen 3
    have q4 := HRN.out.frozen 4
    go_wp2_with fail
    obtain ⟨hf, hkf⟩ := setRow ((vectorR n).1) HRN.out HKN.out (Nat.le_refl _)
    clear r0 r1 r2 r3 r4 q0 q1 q2 q3 q4
    have r0 := hf.cell 0
    have r1 := hf.cell 1
    have r2 := hf.cell 2
    have r3 := hf.cell 3
    have r4 := hf.cell 4
    exact bodyPost_ret (v := .tuple #[.agg ((vectorR n).1).arr, .bool (vectorR n).2]) (by simp [results, Tryd.results85, go_sem, RowP.arr, r0, r1, r2, r3, r4]) rfl ⟨by rw [HV.out], hkf⟩
  · have v1 : ¬ (64768 ≤ (o : Int) ∧ (o : Int) ≤ 65023) := by omega
    by_cases hm : 64512 ≤ o ∧ o ≤ 64767
    · have m1 : 64512 ≤ o := hm.1
      have m2 : o ≤ 64767 := hm.2
      have HV := Lib.hid (show lookR o = ((findP t_misc (o - 64512)).getD RowP.zero, (findP t_misc (o - 64512)).isSome) by unfold lookR; rw [if_neg hv, if_pos hm])
      obtain ⟨n, rfl⟩ : ∃ n, o = 64512 + n := ⟨o - 64512, by omega⟩
      rw [show 64512 + n - 64512 = n by omega] at HV
      have un : IntKind.i64.wrap (64512 + (n : Int) - 64512) = (n : Int) := by rw [IntWalk.i64_in _ (by omega)]; omega
      have w1' : (64512 : Int) ≤ ((64512 + n : Nat) : Int) := by omega
      have w2' : ((64512 + n : Nat) : Int) ≤ 64767 := by omega
      have w3' : ¬ (64768 : Int) ≤ ((64512 + n : Nat) : Int) := by omega
      have w4' : ¬ 64768 ≤ 64512 + n := by omega
      have w5' : ¬ (64768 : Int) ≤ 64512 + (n : Int) := by omega
      have w6' : (64512 : Int) + (n : Int) ≤ 64767 := by omega
      clear hm hv v1
      go_enter Tryd.func85, Tryd.ntmps85
      go_wp2_with fail
      generalize (w.alloc (.cells #[.string { data := #[] }, .string { data := #[] }, .int .u8 0, .int .i64 0, .bool false] 155)) = w1 at *
      refine (misc_any w1).mono ?_
      rintro e w2 ⟨rfl, rfl⟩
      go_wp2_with fail
      refine (find_tab t_misc gok_misc (by decide) _ n _ (Blk.new w1 187 (gcells t_misc)) (by omega) (HS.out.kept0 (HK.out.alloc _)) 10 rfl).mono ?_
      rintro e w3 ⟨rfl, hk3⟩
      have HRN := Lib.hid (hk3.blk (HR.out.alloc _) (fun x => x))
      have HKN := Lib.hid ((HK.out.alloc (.cells (gcells t_misc) 187)).then0 hk3)
      clear hk3
      unfold RowP.arr
      have r0 := HRN.out.cell 0
      have r1 := HRN.out.cell 1
      have r2 := HRN.out.cell 2
      have r3 := HRN.out.cell 3
      have r4 := HRN.out.cell 4
      have q0 := HRN.out.frozen 0
      have q1 := HRN.out.frozen 1
      have q2 := HRN.out.frozen 2
      have q3 := HRN.out.frozen 3
      have q4 := HRN.out.frozen 4
      go_wp2_with fail
      obtain ⟨hf, hkf⟩ := setRow ((findP t_misc n).getD RowP.zero) HRN.out HKN.out (Nat.le_refl _)
      clear r0 r1 r2 r3 r4 q0 q1 q2 q3 q4
      have r0 := hf.cell 0
      have r1 := hf.cell 1
      have r2 := hf.cell 2
      have r3 := hf.cell 3
      have r4 := hf.cell 4
      exact bodyPost_ret (v := .tuple #[.agg ((findP t_misc n).getD RowP.zero).arr, .bool (findP t_misc n).isSome]) (by simp [results, Tryd.results85, go_sem, RowP.arr, r0, r1, r2, r3, r4]) rfl ⟨by rw [HV.out], hkf⟩
    · by_cases h255 : 255 < o
      · have k1 : (255 : Int) < (o : Int) := by omega
        have HV := Lib.hid (show lookR o = (RowP.zero, false) by unfold lookR; rw [if_neg hv, if_neg hm, if_pos h255])
        have HN := Lib.hid (And.intro hv hm)
        clear hv hm v1
        by_cases hz : o < 64512
        · have z1 : ¬ 64512 ≤ o := by omega
          have z2 : ¬ 64768 ≤ o := by omega
          have z3 : ¬ (64512 : Int) ≤ (o : Int) := by omega
          have z4 : ¬ (64768 : Int) ≤ (o : Int) := by omega
          clear hz
          have HRN := Lib.hid HR.out
          have HKN := Lib.hid HK.out
          have r0 := HRN.out.cell 0
          have r1 := HRN.out.cell 1
          have r2 := HRN.out.cell 2
          have r3 := HRN.out.cell 3
          have r4 := HRN.out.cell 4
          have q0 := HRN.out.frozen 0
          have q1 := HRN.out.frozen 1
          have q2 := HRN.out.frozen 2
          have q3 := HRN.out.frozen 3
          have q4 := HRN.out.frozen 4
          go_enter Tryd.func85, Tryd.ntmps85
          go_wp2_with fail
          exact bodyPost_ret (v := .tuple #[.agg rowZ, .bool false]) (by simp [results, Tryd.results85, go_sem, rowZ]) rfl ⟨by rw [HV.out]; rfl, HKN.out⟩
        · have z1 : 64512 ≤ o := by omega
          have z2 : 64768 ≤ o := by have := HN.out.1; have := HN.out.2; omega
          have z3 : (64512 : Int) ≤ (o : Int) := by omega
          have z4 : (64768 : Int) ≤ (o : Int) := by omega
          have z5 : ¬ o ≤ 65023 := by have := HN.out.1; omega
          have z6 : ¬ o ≤ 64767 := by omega
          have z7 : ¬ (o : Int) ≤ 65023 := by omega
          have z8 : ¬ (o : Int) ≤ 64767 := by omega
          clear hz
          have HRN := Lib.hid HR.out
          have HKN := Lib.hid HK.out
          have r0 := HRN.out.cell 0
          have r1 := HRN.out.cell 1
          have r2 := HRN.out.cell 2
          have r3 := HRN.out.cell 3
          have r4 := HRN.out.cell 4
          have q0 := HRN.out.frozen 0
          have q1 := HRN.out.frozen 1
          have q2 := HRN.out.frozen 2
          have q3 := HRN.out.frozen 3
          have q4 := HRN.out.frozen 4
          go_enter Tryd.func85, Tryd.ntmps85
          go_wp2_with fail
          exact bodyPost_ret (v := .tuple #[.agg rowZ, .bool false]) (by simp [results, Tryd.results85, go_sem, rowZ]) rfl ⟨by rw [HV.out]; rfl, HKN.out⟩
      · have k1 : ¬ (255 : Int) < (o : Int) := by omega
        have k2 : ¬ (64512 : Int) ≤ (o : Int) := by omega
        have k3 : ¬ (64768 : Int) ≤ (o : Int) := by omega
        have k4 : ¬ 64512 ≤ o := by omega
        have k5 : ¬ 64768 ≤ o := by omega
        by_cases hnum : 65 ≤ o ∧ o < 208
        · have n1 : 65 ≤ o := hnum.1
          have n2 : o < 208 := hnum.2
          have n3 : (65 : Int) ≤ (o : Int) := by omega
          have n4 : (o : Int) < 208 := by omega
          have HV := Lib.hid (show lookR o = ((findP t_numeric o).getD RowP.zero, (findP t_numeric o).isSome) by unfold lookR; rw [if_neg hv, if_neg hm, if_neg h255, if_pos hnum])
          clear hv hm v1 hnum
          go_enter Tryd.func85, Tryd.ntmps85
          go_wp2_with fail
          generalize (w.alloc (.cells #[.string { data := #[] }, .string { data := #[] }, .int .u8 0, .int .i64 0, .bool false] 155)) = w1 at *
          refine (numeric_any w1).mono ?_
          rintro e w2 ⟨rfl, rfl⟩
          go_wp2_with fail
          refine (find_tab t_numeric gok_numeric (by decide) _ o _ (Blk.new w1 187 (gcells t_numeric)) (by omega) (HS.out.kept0 (HK.out.alloc _)) 24 rfl).mono ?_
          rintro e w3 ⟨rfl, hk3⟩
          have HRN := Lib.hid (hk3.blk (HR.out.alloc _) (fun x => x))
          have HKN := Lib.hid ((HK.out.alloc (.cells (gcells t_numeric) 187)).then0 hk3)
          clear hk3
          unfold RowP.arr
          have r0 := HRN.out.cell 0
          have r1 := HRN.out.cell 1
          have r2 := HRN.out.cell 2
          have r3 := HRN.out.cell 3
          have r4 := HRN.out.cell 4
          have q0 := HRN.out.frozen 0
          have q1 := HRN.out.frozen 1
          have q2 := HRN.out.frozen 2
          have q3 := HRN.out.frozen 3
          have q4 := HRN.out.frozen 4
          go_wp2_with fail
          obtain ⟨hf, hkf⟩ := setRow ((findP t_numeric o).getD RowP.zero) HRN.out HKN.out (Nat.le_refl _)
          clear r0 r1 r2 r3 r4 q0 q1 q2 q3 q4
          have r0 := hf.cell 0
          have r1 := hf.cell 1
          have r2 := hf.cell 2
          have r3 := hf.cell 3
          have r4 := hf.cell 4
          exact bodyPost_ret (v := .tuple #[.agg ((findP t_numeric o).getD RowP.zero).arr, .bool (findP t_numeric o).isSome]) (by simp [results, Tryd.results85, go_sem, RowP.arr, r0, r1, r2, r3, r4]) rfl ⟨by rw [HV.out], hkf⟩
        · have HV := Lib.hid (show lookR o = ((findP t_control o).getD RowP.zero, (findP t_control o).isSome) by unfold lookR; rw [if_neg hv, if_neg hm, if_neg h255, if_neg hnum])
          by_cases n1 : 65 ≤ o
          · have n2 : ¬ o < 208 := by omega
            have n3 : (65 : Int) ≤ (o : Int) := by omega
            have n4 : ¬ (o : Int) < 208 := by omega
            clear hv hm v1 hnum
            go_enter Tryd.func85, Tryd.ntmps85
            go_wp2_with fail
            generalize (w.alloc (.cells #[.string { data := #[] }, .string { data := #[] }, .int .u8 0, .int .i64 0, .bool false] 155)) = w1 at *
            refine (control_any w1).mono ?_
            rintro e w2 ⟨rfl, rfl⟩
            go_wp2_with fail
            refine (find_tab t_control gok_control (by decide) _ o _ (Blk.new w1 187 (gcells t_control)) (by omega) (HS.out.kept0 (HK.out.alloc _)) 21 rfl).mono ?_
            rintro e w3 ⟨rfl, hk3⟩
            have HRN := Lib.hid (hk3.blk (HR.out.alloc _) (fun x => x))
            have HKN := Lib.hid ((HK.out.alloc (.cells (gcells t_control) 187)).then0 hk3)
            clear hk3
            unfold RowP.arr
            have r0 := HRN.out.cell 0
            have r1 := HRN.out.cell 1
            have r2 := HRN.out.cell 2
            have r3 := HRN.out.cell 3
            have r4 := HRN.out.cell 4
            have q0 := HRN.out.frozen 0
            have q1 := HRN.out.frozen 1
            have q2 := HRN.out.frozen 2
            have q3 := HRN.out.frozen 3
            have q4 := HRN.out.frozen 4
            go_wp2_with fail
            obtain ⟨hf, hkf⟩ := setRow ((findP t_control o).getD RowP.zero) HRN.out HKN.out (Nat.le_refl _)
            clear r0 r1 r2 r3 r4 q0 q1 q2 q3 q4
            have r0 := hf.cell 0
            have r1 := hf.cell 1
            have r2 := hf.cell 2
            have r3 := hf.cell 3
            have r4 := hf.cell 4
            exact bodyPost_ret (v := .tuple #[.agg ((findP t_control o).getD RowP.zero).arr, .bool (findP t_control o).isSome]) (by simp [results, Tryd.results85, go_sem, RowP.arr, r0, r1, r2, r3, r4]) rfl ⟨by rw [HV.out], hkf⟩
          · have n3 : ¬ (65 : Int) ≤ (o : Int) := by omega
            clear hv hm v1 hnum
            go_enter Tryd.func85, Tryd.ntmps85
            go_wp2_with fail
            generalize (w.alloc (.cells #[.string { data := #[] }, .string { data := #[] }, .int .u8 0, .int .i64 0, .bool false] 155)) = w1 at *
            refine (control_any w1).mono ?_
            rintro e w2 ⟨rfl, rfl⟩
            go_wp2_with fail
            refine (find_tab t_control gok_control (by decide) _ o _ (Blk.new w1 187 (gcells t_control)) (by omega) (HS.out.kept0 (HK.out.alloc _)) 21 rfl).mono ?_
            rintro e w3 ⟨rfl, hk3⟩
            have HRN := Lib.hid (hk3.blk (HR.out.alloc _) (fun x => x))
            have HKN := Lib.hid ((HK.out.alloc (.cells (gcells t_control) 187)).then0 hk3)
            clear hk3
            unfold RowP.arr
            have r0 := HRN.out.cell 0
            have r1 := HRN.out.cell 1
            have r2 := HRN.out.cell 2
            have r3 := HRN.out.cell 3
            have r4 := HRN.out.cell 4
            have q0 := HRN.out.frozen 0
            have q1 := HRN.out.frozen 1
            have q2 := HRN.out.frozen 2
            have q3 := HRN.out.frozen 3
            have q4 := HRN.out.frozen 4
            go_wp2_with fail
            obtain ⟨hf, hkf⟩ := setRow ((findP t_control o).getD RowP.zero) HRN.out HKN.out (Nat.le_refl _)
            clear r0 r1 r2 r3 r4 q0 q1 q2 q3 q4
            have r0 := hf.cell 0
            have r1 := hf.cell 1
            have r2 := hf.cell 2
            have r3 := hf.cell 3
            have r4 := hf.cell 4
            exact bodyPost_ret (v := .tuple #[.agg ((findP t_control o).getD RowP.zero).arr, .bool (findP t_control o).isSome]) (by simp [results, Tryd.results85, go_sem, RowP.arr, r0, r1, r2, r3, r4]) rfl ⟨by rw [HV.out], hkf⟩
end Go.Proofs.YtfmblalbcodpmaaDoor
namespace Go.Proofs.YtfmblalbcodpmaaDoor
open Go.RowKit
def colon : UInt8 := 58
def fromP (r : RowP) : List UInt8 := typesP (cutL r.types colon)
def toP (r : RowP) : List UInt8 := typesP (cutR r.types colon)
theorem cutL_len (s : ByteArray) (c : UInt8) : (cutL s c).size ≤ s.size ∧ (cutR s c).size ≤ s.size := by
  unfold cutL cutR Lib.cut
  rw [Lib.size_eq s]
  split
  · constructor
    · show (List.toArray _).size ≤ _
      simp only [List.size_toArray, List.length_take]; omega
    · show (List.toArray _).size ≤ _
      simp only [List.size_toArray, List.length_drop]; omega
  · exact ⟨Nat.le_refl _, Nat.zero_le _⟩
theorem cut_ascii {s : ByteArray} (c : UInt8) (h : Ascii s) : Ascii (cutL s c) ∧ Ascii (cutR s c) := by
  unfold cutL cutR Lib.cut
  split
  · constructor
    · intro j b hb
      obtain ⟨i, hi⟩ := List.getElem?_of_mem (List.mem_of_mem_take (List.mem_of_getElem? hb))
      exact h i b hi
    · intro j b hb
      obtain ⟨i, hi⟩ := List.getElem?_of_mem (List.mem_of_mem_drop (List.mem_of_getElem? hb))
      exact h i b hi
  · exact ⟨h, fun j b hb => by cases hb⟩
/-- What Of answers. -/
def OfRet (w : World) (o : Nat) (r : RowP × Bool) (e : Ending) (w' : World) : Prop :=
  if r.2 = true then ∃ vf vt, e = .returned (.tuple #[.agg #[.int .u16 (o : Int), .string r.1.name, .int .u8 (r.1.imm : Int), vf, vt, .int .i64 (r.1.bits : Int), .bool r.1.plain], .int .i64 0]) ∧ OwnL w' w.heap.size 53 1 vf (fromP r.1).length ((fromP r.1).map u8V) ∧ OwnL w' w.heap.size 53 1 vt (toP r.1).length ((toP r.1).map u8V) ∧ Kept S0 w w'
  else e = .returned (.tuple #[.agg #[.int .u16 0, .string { data := #[] }, .int .u8 0, .slice none 0 0, .slice none 0 0, .int .i64 0, .bool false], .int .i64 11]) ∧ Kept S0 w w'
/-- Seven cells set. -/
theorem set7 {w a : World} {b t : Nat} {u0 u1 u2 u3 u4 u5 u6 : Value} (hb : Blk w b t #[u0, u1, u2, u3, u4, u5, u6]) (hk : Kept S0 a w) (hbs : a.heap.size ≤ b) (v0 v1 v2 v3 v4 v5 v6 : Value) :
    Blk (((((((w.setCell ⟨b, 0, none⟩ v0).setCell ⟨b, 1, none⟩ v1).setCell ⟨b, 2, none⟩ v2).setCell ⟨b, 3, none⟩ v3).setCell ⟨b, 4, none⟩ v4).setCell ⟨b, 5, none⟩ v5).setCell ⟨b, 6, none⟩ v6) b t #[v0, v1, v2, v3, v4, v5, v6] ∧ Kept S0 a (((((((w.setCell ⟨b, 0, none⟩ v0).setCell ⟨b, 1, none⟩ v1).setCell ⟨b, 2, none⟩ v2).setCell ⟨b, 3, none⟩ v3).setCell ⟨b, 4, none⟩ v4).setCell ⟨b, 5, none⟩ v5).setCell ⟨b, 6, none⟩ v6) ∧ Kept (S1 b) w (((((((w.setCell ⟨b, 0, none⟩ v0).setCell ⟨b, 1, none⟩ v1).setCell ⟨b, 2, none⟩ v2).setCell ⟨b, 3, none⟩ v3).setCell ⟨b, 4, none⟩ v4).setCell ⟨b, 5, none⟩ v5).setCell ⟨b, 6, none⟩ v6) := by
  have k0 : Kept (S1 b) w w := Kept.refl _ _
  have h1 : Blk (w.setCell ⟨b, 0, none⟩ v0) b t #[v0, u1, u2, u3, u4, u5, u6] := hb.set_ 0 v0
  replace hk := hk.setCell (p := ⟨b, 0, none⟩) (.inr hbs) v0
  replace k0 := k0.setCell (p := ⟨b, 0, none⟩) (.inl rfl) v0
  have h2 : Blk ((w.setCell ⟨b, 0, none⟩ v0).setCell ⟨b, 1, none⟩ v1) b t #[v0, v1, u2, u3, u4, u5, u6] := h1.set_ 1 v1
  replace hk := hk.setCell (p := ⟨b, 1, none⟩) (.inr hbs) v1
  replace k0 := k0.setCell (p := ⟨b, 1, none⟩) (.inl rfl) v1
  have h3 : Blk (((w.setCell ⟨b, 0, none⟩ v0).setCell ⟨b, 1, none⟩ v1).setCell ⟨b, 2, none⟩ v2) b t #[v0, v1, v2, u3, u4, u5, u6] := h2.set_ 2 v2
  replace hk := hk.setCell (p := ⟨b, 2, none⟩) (.inr hbs) v2
  replace k0 := k0.setCell (p := ⟨b, 2, none⟩) (.inl rfl) v2
  have h4 : Blk ((((w.setCell ⟨b, 0, none⟩ v0).setCell ⟨b, 1, none⟩ v1).setCell ⟨b, 2, none⟩ v2).setCell ⟨b, 3, none⟩ v3) b t #[v0, v1, v2, v3, u4, u5, u6] := h3.set_ 3 v3
  replace hk := hk.setCell (p := ⟨b, 3, none⟩) (.inr hbs) v3
  replace k0 := k0.setCell (p := ⟨b, 3, none⟩) (.inl rfl) v3
  have h5 : Blk (((((w.setCell ⟨b, 0, none⟩ v0).setCell ⟨b, 1, none⟩ v1).setCell ⟨b, 2, none⟩ v2).setCell ⟨b, 3, none⟩ v3).setCell ⟨b, 4, none⟩ v4) b t #[v0, v1, v2, v3, v4, u5, u6] := h4.set_ 4 v4
  replace hk := hk.setCell (p := ⟨b, 4, none⟩) (.inr hbs) v4
  replace k0 := k0.setCell (p := ⟨b, 4, none⟩) (.inl rfl) v4
  have h6 : Blk ((((((w.setCell ⟨b, 0, none⟩ v0).setCell ⟨b, 1, none⟩ v1).setCell ⟨b, 2, none⟩ v2).setCell ⟨b, 3, none⟩ v3).setCell ⟨b, 4, none⟩ v4).setCell ⟨b, 5, none⟩ v5) b t #[v0, v1, v2, v3, v4, v5, u6] := h5.set_ 5 v5
  replace hk := hk.setCell (p := ⟨b, 5, none⟩) (.inr hbs) v5
  replace k0 := k0.setCell (p := ⟨b, 5, none⟩) (.inl rfl) v5
  have h7 : Blk (((((((w.setCell ⟨b, 0, none⟩ v0).setCell ⟨b, 1, none⟩ v1).setCell ⟨b, 2, none⟩ v2).setCell ⟨b, 3, none⟩ v3).setCell ⟨b, 4, none⟩ v4).setCell ⟨b, 5, none⟩ v5).setCell ⟨b, 6, none⟩ v6) b t #[v0, v1, v2, v3, v4, v5, v6] := h6.set_ 6 v6
  replace hk := hk.setCell (p := ⟨b, 6, none⟩) (.inr hbs) v6
  replace k0 := k0.setCell (p := ⟨b, 6, none⟩) (.inl rfl) v6
  exact ⟨h7, hk, k0⟩
set_option maxRecDepth 100000 in
set_option maxHeartbeats 6400000 in
theorem of_row (o : Nat) (w : World) (ho : o < 65536) (hsp : SpTab w) (hty : (lookR o).2 = true → (lookR o).1.types.size ≤ 1000 ∧ Ascii (lookR o).1.types) : Calls Tryd.prog 60 #[.int .u16 (o : Int)] w (OfRet w o (lookR o)) := by
  have HS := Lib.hid hsp
  have HL := Lib.hid (fun w' hs => look_any o w' ho hs)
  have HK := Lib.hid ((Kept.refl S0 w).alloc (.cells #[.int .u16 0, .string { data := #[] }, .int .u8 0, .slice none 0 0, .slice none 0 0, .int .i64 0, .bool false] 129))
  have HR := Lib.hid (Blk.new w 129 #[.int .u16 0, .string { data := #[] }, .int .u8 0, .slice none 0 0, .slice none 0 0, .int .i64 0, .bool false])
  have HTY := Lib.hid hty
  clear hsp hty
  go_enter Tryd.func60, Tryd.ntmps60
  go_wp2_with fail
  generalize (w.alloc (.cells #[.int .u16 0, .string { data := #[] }, .int .u8 0, .slice none 0 0, .slice none 0 0, .int .i64 0, .bool false] 129)) = w1 at *
  refine (HL.out w1 (HS.out.kept0 HK.out)).mono ?_
  rintro e w2 ⟨rfl, hk2⟩
  generalize lookR o = ro at *
  obtain ⟨⟨rname, rtypes, rimm, rbits, rplain⟩, ok⟩ := ro
  unfold RowP.arr
  have hka : Kept S0 w2 (w2.alloc (.cells #[.string rname, .string rtypes, .int .u8 (rimm : Int), .int .i64 (rbits : Int), .bool rplain] 155)) := (Kept.refl S0 w2).alloc _
  have HX := Lib.hid (Blk.new w2 155 #[.string rname, .string rtypes, .int .u8 (rimm : Int), .int .i64 (rbits : Int), .bool rplain])
  have HRN := Lib.hid (hka.blk (hk2.blk HR.out (fun x => x)) (fun x => x))
  have HKN := Lib.hid ((HK.out.then0 hk2).then0 hka)
  clear hka hk2
  have r0 := HRN.out.cell 0
  have r1 := HRN.out.cell 1
  have r2 := HRN.out.cell 2
  have r3 := HRN.out.cell 3
  have r4 := HRN.out.cell 4
  have r5 := HRN.out.cell 5
  have r6 := HRN.out.cell 6
  have q0 := HRN.out.frozen 0
  have q1 := HRN.out.frozen 1
  have q2 := HRN.out.frozen 2
  have q3 := HRN.out.frozen 3
  have q4 := HRN.out.frozen 4
  have q5 := HRN.out.frozen 5
  have q6 := HRN.out.frozen 6
  have x1 := HX.out.cell 1
  simp only
  cases ok with
  | false =>
    go_wp2_with fail
    obtain ⟨hf, hkf, _⟩ := set7 HRN.out HKN.out (Nat.le_refl _) (.int .u16 0) (.string { data := #[] }) (.int .u8 0) (.slice none 0 0) (.slice none 0 0) (.int .i64 0) (.bool false)
    clear r0 q0 r1 q1 r2 q2 r3 q3 r4 q4 r5 q5 r6 q6
    have r0 := hf.cell 0
    have r1 := hf.cell 1
    have r2 := hf.cell 2
    have r3 := hf.cell 3
    have r4 := hf.cell 4
    have r5 := hf.cell 5
    have r6 := hf.cell 6
    exact bodyPost_ret (v := .tuple #[.agg #[.int .u16 0, .string { data := #[] }, .int .u8 0, .slice none 0 0, .slice none 0 0, .int .i64 0, .bool false], .int .i64 11]) (by simp [results, Tryd.results60, go_sem, r0, r1, r2, r3, r4, r5, r6]) rfl (by unfold OfRet; rw [if_neg (by simp)]; exact ⟨rfl, hkf⟩)
  | true =>
    clear r0 q0 r1 q1 r2 q2 r3 q3 r4 q4 r5 q5 r6 q6
    go_wp2_with fail
    generalize (w2.alloc (.cells #[.string rname, .string rtypes, .int .u8 (rimm : Int), .int .i64 (rbits : Int), .bool rplain] 155)) = w3 at *
    generalize w2.heap.size = xb at *
    have hts : rtypes.size ≤ 1000 := (HTY.out trivial).1
    have hta : Ascii rtypes := (HTY.out trivial).2
    clear x1
    refine (cut_one rtypes colon w3 (by omega)).mono ?_
    rintro e w4 ⟨rfl, hk4⟩
    have HX4 := Lib.hid (hk4.blk HX.out (fun x => x))
    have HR4 := Lib.hid (hk4.blk HRN.out (fun x => x))
    have HK4 := Lib.hid (HKN.out.then0 hk4)
    clear hk4
    go_wp2_with fail
    have hXd := HX4.out.drew
    have HRd := Lib.hid HR4.out.drew
    have HKd := Lib.hid HK4.out.drew
    refine wp_region_R (fun w' => w'.cell? ⟨xb, 0, none⟩ = some (.string rname) ∧ w'.cell? ⟨xb, 2, none⟩ = some (.int .u8 (rimm : Int)) ∧ w'.cell? ⟨xb, 3, none⟩ = some (.int .i64 (rbits : Int)) ∧ w'.cell? ⟨xb, 4, none⟩ = some (.bool rplain)) [14] (by kernel_rfl) ?_
    have hS : w4.drew.cell? ⟨xb, 0, none⟩ = some (.string rname) ∧ w4.drew.cell? ⟨xb, 2, none⟩ = some (.int .u8 (rimm : Int)) ∧ w4.drew.cell? ⟨xb, 3, none⟩ = some (.int .i64 (rbits : Int)) ∧ w4.drew.cell? ⟨xb, 4, none⟩ = some (.bool rplain) := ⟨hXd.cell 0, hXd.cell 2, hXd.cell 3, hXd.cell 4⟩
    have HXd := Lib.hid hXd
    clear hXd
    generalize w4.drew = w5 at *
    refine wpAnyR_take 0 (v := ?_) rfl (by kernel_rfl) (by kernel_rfl) (by kernel_rfl) (by kernel_rfl) (fun _ _ _ h => h) hS ⟨by rfl, ?_⟩ ?_
    rotate_left; (intro w hSw; (try dsimp only at hSw); first | (go_simp; done) | (go_simp; with_reducible rfl))
    simp only [List.getElem_toArray, List.getElem_cons_zero, Act.put, List.setIfInBounds_toArray, List.set_cons_zero, List.set_cons_succ]
    refine wpAnyR_take 1 (v := ?_) rfl (by kernel_rfl) (by kernel_rfl) (by kernel_rfl) (by kernel_rfl) (fun _ _ _ h => h) hS ⟨by rfl, ?_⟩ ?_
    rotate_left; (intro w hSw; (try dsimp only at hSw); first | (go_simp; done) | (go_simp; with_reducible rfl))
    simp only [List.getElem_toArray, List.getElem_cons_zero, List.getElem_cons_succ, Act.put, List.setIfInBounds_toArray, List.set_cons_zero, List.set_cons_succ]
    refine wpAnyR_take 2 (v := ?_) rfl (by kernel_rfl) (by kernel_rfl) (by kernel_rfl) (by kernel_rfl) (fun _ _ _ h => h) hS ⟨by rfl, ?_⟩ ?_
    rotate_left; (intro w hSw; (try dsimp only at hSw); first | (go_simp; done) | (go_simp; with_reducible rfl))
    simp only [List.getElem_toArray, List.getElem_cons_zero, List.getElem_cons_succ, Act.put, List.setIfInBounds_toArray, List.set_cons_zero, List.set_cons_succ]
    refine wpAnyR_take 3 (v := ?_) rfl (by kernel_rfl) (by kernel_rfl) (by kernel_rfl) (by kernel_rfl) (fun _ _ _ h => h) hS ⟨by rfl, ?_⟩ ?_
    rotate_left; (intro w hSw; (try dsimp only at hSw); first | (go_simp; done) | (go_simp; with_reducible rfl))
    simp only [List.getElem_toArray, List.getElem_cons_zero, List.getElem_cons_succ, Act.put, List.setIfInBounds_toArray, List.set_cons_zero, List.set_cons_succ]
    refine wpAnyR_take 4 (v := ?_) rfl (by kernel_rfl) (by kernel_rfl) (by kernel_rfl) (by kernel_rfl) (fun _ _ _ h => h) hS ⟨by rfl, ?_⟩ ?_
    rotate_left; (intro w hSw; (try dsimp only at hSw); first | (go_simp; done) | (go_simp; with_reducible rfl))
    simp only [List.getElem_toArray, List.getElem_cons_zero, List.getElem_cons_succ, Act.put, List.setIfInBounds_toArray, List.set_cons_zero, List.set_cons_succ]
    refine wpAnyR_take 5 (v := ?_) rfl (by kernel_rfl) (by kernel_rfl) (by kernel_rfl) (by kernel_rfl) (fun _ _ _ h => h) hS ⟨by rfl, ?_⟩ ?_
    rotate_left; (intro w hSw; (try dsimp only at hSw); first | (go_simp; done) | (go_simp; with_reducible rfl))
    simp only [List.getElem_toArray, List.getElem_cons_zero, List.getElem_cons_succ, Act.put, List.setIfInBounds_toArray, List.set_cons_zero, List.set_cons_succ]
    refine wpAnyR_take 7 (v := ?_) rfl (by kernel_rfl) (by kernel_rfl) (by kernel_rfl) (by kernel_rfl) (fun _ _ _ h => h) hS ⟨by rfl, ?_⟩ ?_
    rotate_left; (intro w hSw; (try dsimp only at hSw); first | (go_simp; done) | (go_simp; with_reducible rfl))
    simp only [List.getElem_toArray, List.getElem_cons_zero, List.getElem_cons_succ, Act.put, List.setIfInBounds_toArray, List.set_cons_zero, List.set_cons_succ]
    refine wpAnyR_take 9 (v := ?_) rfl (by kernel_rfl) (by kernel_rfl) (by kernel_rfl) (by kernel_rfl) (fun _ _ _ h => h) hS ⟨by rfl, ?_⟩ ?_
    rotate_left; (intro w hSw; (try dsimp only at hSw); first | (go_simp; done) | (go_simp; with_reducible rfl))
    simp only [List.getElem_toArray, List.getElem_cons_zero, List.getElem_cons_succ, Act.put, List.setIfInBounds_toArray, List.set_cons_zero, List.set_cons_succ]
    refine wpAnyR_take 10 (v := ?_) rfl (by kernel_rfl) (by kernel_rfl) (by kernel_rfl) (by kernel_rfl) (fun _ _ _ h => h) hS ⟨by rfl, ?_⟩ ?_
    rotate_left; (intro w hSw; (try dsimp only at hSw); first | (go_simp; done) | (go_simp; with_reducible rfl))
    simp only [List.getElem_toArray, List.getElem_cons_zero, List.getElem_cons_succ, Act.put, List.setIfInBounds_toArray, List.set_cons_zero, List.set_cons_succ]
    refine wpAnyR_take 11 (v := ?_) rfl (by kernel_rfl) (by kernel_rfl) (by kernel_rfl) (by kernel_rfl) (fun _ _ _ h => h) hS ⟨by rfl, ?_⟩ ?_
    rotate_left; (intro w hSw; (try dsimp only at hSw); first | (go_simp; done) | (go_simp; with_reducible rfl))
    simp only [List.getElem_toArray, List.getElem_cons_zero, List.getElem_cons_succ, Act.put, List.setIfInBounds_toArray, List.set_cons_zero, List.set_cons_succ]
    refine wpAnyR_take 12 (v := ?_) rfl (by kernel_rfl) (by kernel_rfl) (by kernel_rfl) (by kernel_rfl) (fun _ _ _ h => h) hS ⟨by rfl, ?_⟩ ?_
    rotate_left; (intro w hSw; (try dsimp only at hSw); first | (go_simp; done) | (go_simp; with_reducible rfl))
    simp only [List.getElem_toArray, List.getElem_cons_zero, List.getElem_cons_succ, Act.put, List.setIfInBounds_toArray, List.set_cons_zero, List.set_cons_succ]
    refine wpAnyR_one 6 rfl (by kernel_rfl) (fun K hK => ?_)
    go_simp
    go_at_call 87
    refine (types_any (cutL rtypes colon) w5 (Nat.le_trans (cutL_len rtypes colon).1 hts) (cut_ascii colon hta).1).mono ?_
    rintro e w6 ⟨vf, rfl, hof, hk6⟩
    obtain ⟨Af, cf, rfl, _⟩ := hof.out
    have hX6 := hk6.blk HXd.out (fun x => x)
    have HR6 := Lib.hid (hk6.blk HRd.out (fun x => x))
    have HK6 := Lib.hid (HKd.out.then0 hk6)
    have HOF := Lib.hid hof
    have hS6 : w6.cell? ⟨xb, 0, none⟩ = some (.string rname) ∧ w6.cell? ⟨xb, 2, none⟩ = some (.int .u8 (rimm : Int)) ∧ w6.cell? ⟨xb, 3, none⟩ = some (.int .i64 (rbits : Int)) ∧ w6.cell? ⟨xb, 4, none⟩ = some (.bool rplain) := ⟨hX6.cell 0, hX6.cell 2, hX6.cell 3, hX6.cell 4⟩
    refine hK.out _ _ (fun _ => hS6) ?_
    clear hK K hS hk6 hof
    refine wpAnyR_one 8 rfl (by kernel_rfl) (fun K hK => ?_)
    go_simp
    go_at_call 87
    refine (types_any (cutR rtypes colon) w6 (Nat.le_trans (cutL_len rtypes colon).2 hts) (cut_ascii colon hta).2).mono ?_
    rintro e w7 ⟨vt, rfl, hot, hk7⟩
    obtain ⟨At, ct, rfl, _⟩ := hot.out
    have hX7 := hk7.blk hX6 (fun x => x)
    have HR7 := Lib.hid (hk7.blk HR6.out (fun x => x))
    have HK7 := Lib.hid (HK6.out.then0 hk7)
    have HOF7 := Lib.hid (HOF.out.kept0 hk7)
    have HOT7 := Lib.hid hot
    have HB6 := Lib.hid (show w.heap.size < w6.heap.size from HR6.out.lt)
    have HB5 := Lib.hid (show w.heap.size < w5.heap.size from HRd.out.lt)
    have hS7 : w7.cell? ⟨xb, 0, none⟩ = some (.string rname) ∧ w7.cell? ⟨xb, 2, none⟩ = some (.int .u8 (rimm : Int)) ∧ w7.cell? ⟨xb, 3, none⟩ = some (.int .i64 (rbits : Int)) ∧ w7.cell? ⟨xb, 4, none⟩ = some (.bool rplain) := ⟨hX7.cell 0, hX7.cell 2, hX7.cell 3, hX7.cell 4⟩
    refine hK.out _ _ (fun _ => hS7) ?_
    clear hK K hS6 hk7 hot hX6
    have hnf : (typesP (cutL rtypes colon)).length = (fromP ⟨rname, rtypes, rimm, rbits, rplain⟩).length := rfl
    have hnt : (typesP (cutR rtypes colon)).length = (toP ⟨rname, rtypes, rimm, rbits, rplain⟩).length := rfl
    have HE := Lib.hid (show (typesP (cutL rtypes colon)).map u8V = (fromP ⟨rname, rtypes, rimm, rbits, rplain⟩).map u8V ∧ (typesP (cutR rtypes colon)).map u8V = (toP ⟨rname, rtypes, rimm, rbits, rplain⟩).map u8V from ⟨rfl, rfl⟩)
    have HNF := Lib.hid hnf
    have HNT := Lib.hid hnt
    clear hnf hnt
    generalize (typesP (cutL rtypes colon)).length = nf at *
    generalize (typesP (cutR rtypes colon)).length = nt at *
    refine wpAnyR_take 13 (v := ?_) rfl (by kernel_rfl) (by kernel_rfl) (by kernel_rfl) (by kernel_rfl) (fun _ _ _ h => h) hS7 ⟨by rfl, ?_⟩ ?_
    rotate_left; (intro w hSw; (try dsimp only at hSw); first | (go_simp; done) | (go_simp; with_reducible rfl))
    simp only [List.getElem_toArray, List.getElem_cons_zero, List.getElem_cons_succ, Act.put, List.setIfInBounds_toArray, List.set_cons_zero, List.set_cons_succ]
    refine wpAnyR_one 14 rfl (by kernel_rfl) (fun K hK => ?_)
    have r0 := HR7.out.cell 0
    have q0 := HR7.out.frozen 0
    have r1 := HR7.out.cell 1
    have q1 := HR7.out.frozen 1
    have r2 := HR7.out.cell 2
    have q2 := HR7.out.frozen 2
    have r3 := HR7.out.cell 3
    have q3 := HR7.out.frozen 3
    have r4 := HR7.out.cell 4
    have q4 := HR7.out.frozen 4
    have r5 := HR7.out.cell 5
    have q5 := HR7.out.frozen 5
    have r6 := HR7.out.cell 6
    have q6 := HR7.out.frozen 6
    go_simp
    refine hK.out _ _ (fun h => absurd h (by decide)) ?_
    clear hK K
    refine wpAnyR_late 15 (v := ?_) rfl (by kernel_rfl) (by kernel_rfl) (by kernel_rfl) (by kernel_rfl) (fun _ _ _ h => h) (fun h => absurd h (by decide)) ⟨by rfl, ?_⟩ ?_
    rotate_left; (intro w; first | (go_simp; done) | (go_simp; with_reducible rfl))
    simp only [List.getElem_toArray, List.getElem_cons_zero, List.getElem_cons_succ, Act.put, List.setIfInBounds_toArray, List.set_cons_zero, List.set_cons_succ]
    refine wpAnyR_done (by kernel_rfl) ?_ _
    obtain ⟨hf, hkf, hk1⟩ := set7 HR7.out HK7.out (Nat.le_refl _) (.int .u16 (o : Int)) (.string rname) (.int .u8 (rimm : Int)) (.slice Af nf cf) (.slice At nt ct) (.int .i64 (rbits : Int)) (.bool rplain)
    clear r0 q0 r1 q1 r2 q2 r3 q3 r4 q4 r5 q5 r6 q6
    have HOF8 := Lib.hid (HOF7.out.kept hk1 (fun g hg e => by have e' : g = w.heap.size := e; have := (HOF7.out.lt g hg).1; have := HB5.out; omega))
    have HOT8 := Lib.hid (HOT7.out.kept hk1 (fun g hg e => by have e' : g = w.heap.size := e; have := (HOT7.out.lt g hg).1; have := HB6.out; omega))
    have HF8 := Lib.hid hf
    have HK8 := Lib.hid hkf
    clear hf hkf hk1 hS7
    generalize (((((((w7.setCell ⟨w.heap.size, 0, none⟩ (.int .u16 (o : Int))).setCell ⟨w.heap.size, 1, none⟩ (.string rname)).setCell ⟨w.heap.size, 2, none⟩ (.int .u8 (rimm : Int))).setCell ⟨w.heap.size, 3, none⟩ (.slice Af nf cf)).setCell ⟨w.heap.size, 4, none⟩ (.slice At nt ct)).setCell ⟨w.heap.size, 5, none⟩ (.int .i64 (rbits : Int))).setCell ⟨w.heap.size, 6, none⟩ (.bool rplain)) = w8 at *
    have hf := HF8.out
    have r0 := hf.cell 0
    have r1 := hf.cell 1
    have r2 := hf.cell 2
    have r3 := hf.cell 3
    have r4 := hf.cell 4
    have r5 := hf.cell 5
    have r6 := hf.cell 6
    go_wp2_with fail
    exact bodyPost_ret (v := .tuple #[.agg #[.int .u16 (o : Int), .string rname, .int .u8 (rimm : Int), .slice Af nf cf, .slice At nt ct, .int .i64 (rbits : Int), .bool rplain], .int .i64 0]) (by simp [results, Tryd.results60, go_sem, r0, r1, r2, r3, r4, r5, r6]) rfl (by
      unfold OfRet
      rw [if_pos rfl]
      refine ⟨.slice Af nf cf, .slice At nt ct, rfl, ?_, ?_, HK8.out⟩
      · have := HOF8.out.mono (Nat.le_of_lt HB5.out)
        rw [HNF.out] at this
        rw [HNF.out]
        exact this
      · have := HOT8.out.mono (Nat.le_of_lt HB6.out)
        rw [HNT.out] at this
        rw [HNT.out]
        exact this)
theorem of_none (o : Nat) (w : World) (ho : o < 65536) (hsp : SpTab w) (h : (lookR o).2 = false) : Calls Tryd.prog 60 #[.int .u16 (o : Int)] w fun e w' => e = .returned (.tuple #[.agg #[.int .u16 0, .string { data := #[] }, .int .u8 0, .slice none 0 0, .slice none 0 0, .int .i64 0, .bool false], .int .i64 11]) ∧ Kept S0 w w' := by
  refine (of_row o w ho hsp (fun h2 => by rw [h] at h2; cases h2)).mono ?_
  intro e w' hr
  unfold OfRet at hr
  rw [if_neg (by rw [h]; simp)] at hr
  exact hr
end Go.Proofs.YtfmblalbcodpmaaDoor
namespace Go.Proofs.YtfmblalbcodpmaaDoor
open Go.RowKit
/-- What stands behind, bits, lanes of the name's shape, what is taken, what is left. -/
abbrev Inf := Nat × Nat × Nat × List Nat × List Nat
def pageA : List (Option Inf) := [some (0, 0, 2, [], []), some (0, 0, 2, [], []), some (1, 0, 2, [], []), some (1, 0, 2, [], []), some (1, 0, 2, [], []), none, none, none, none, none, none, none, some (2, 0, 2, [], []), some (2, 0, 2, [], []), some (3, 0, 2, [], []), some (0, 0, 2, [], []), some (4, 0, 2, [], []), some (5, 0, 2, [], []), none, none, none, none, none, none, none, none, some (0, 0, 2, [], []), some (0, 0, 2, [], []), some (26, 0, 2, [], []), none, none, none, some (6, 0, 2, [], []), some (6, 0, 2, [], []), some (6, 0, 2, [], []), some (7, 0, 2, [], []), some (7, 0, 2, [], []), some (8, 0, 2, [], []), some (8, 0, 2, [], []), none, some (16, 32, 2, [127], [127]), some (16, 64, 2, [127], [126]), some (16, 32, 2, [127], [125]), some (16, 64, 2, [127], [124]), some (16, 8, 2, [127], [127]), some (16, 8, 2, [127], [127]), some (16, 16, 2, [127], [127]), some (16, 16, 2, [127], [127]), some (16, 8, 2, [127], [126]), some (16, 8, 2, [127], [126]), some (16, 16, 2, [127], [126]), some (16, 16, 2, [127], [126]), some (16, 32, 2, [127], [126]), some (16, 32, 2, [127], [126]), some (16, 32, 2, [127, 127], []), some (16, 64, 2, [127, 126], []), some (16, 32, 2, [127, 125], []), some (16, 64, 2, [127, 124], []), some (16, 8, 2, [127, 127], []), some (16, 16, 2, [127, 127], []), some (16, 8, 2, [127, 126], []), some (16, 16, 2, [127, 126], []), some (16, 32, 2, [127, 126], []), some (14, 0, 2, [], [127]), some (14, 0, 2, [127], [127]), some (20, 0, 2, [], [127]), some (21, 0, 2, [], [126]), some (22, 0, 2, [], [125]), some (23, 0, 2, [], [124]), some (0, 0, 2, [127], [127]), some (0, 0, 2, [127, 127], [127]), some (0, 0, 2, [127, 127], [127]), some (0, 0, 2, [127, 127], [127]), some (0, 0, 2, [127, 127], [127]), some (0, 0, 2, [127, 127], [127]), some (0, 0, 2, [127, 127], [127]), some (0, 0, 2, [127, 127], [127]), some (0, 0, 2, [127, 127], [127]), some (0, 0, 2, [127, 127], [127]), some (0, 0, 2, [127, 127], [127]), some (0, 0, 2, [126], [127]), some (0, 0, 2, [126, 126], [127]), some (0, 0, 2, [126, 126], [127]), some (0, 0, 2, [126, 126], [127]), some (0, 0, 2, [126, 126], [127]), some (0, 0, 2, [126, 126], [127]), some (0, 0, 2, [126, 126], [127]), some (0, 0, 2, [126, 126], [127]), some (0, 0, 2, [126, 126], [127]), some (0, 0, 2, [126, 126], [127]), some (0, 0, 2, [126, 126], [127]), some (0, 0, 2, [125, 125], [127]), some (0, 0, 2, [125, 125], [127]), some (0, 0, 2, [125, 125], [127]), some (0, 0, 2, [125, 125], [127]), some (0, 0, 2, [125, 125], [127]), some (0, 0, 2, [125, 125], [127]), some (0, 0, 2, [124, 124], [127]), some (0, 0, 2, [124, 124], [127]), some (0, 0, 2, [124, 124], [127]), some (0, 0, 2, [124, 124], [127]), some (0, 0, 2, [124, 124], [127]), some (0, 0, 2, [124, 124], [127]), some (0, 0, 2, [127], [127]), some (0, 0, 2, [127], [127]), some (0, 0, 2, [127], [127]), some (0, 0, 2, [127, 127], [127]), some (0, 0, 2, [127, 127], [127]), some (0, 0, 2, [127, 127], [127]), some (0, 0, 2, [127, 127], [127]), some (0, 0, 2, [127, 127], [127]), some (0, 0, 2, [127, 127], [127]), some (0, 0, 2, [127, 127], [127]), some (0, 0, 2, [127, 127], [127]), some (0, 0, 2, [127, 127], [127]), some (0, 0, 2, [127, 127], [127]), some (0, 0, 2, [127, 127], [127]), some (0, 0, 2, [127, 127], [127]), some (0, 0, 2, [127, 127], [127]), some (0, 0, 2, [127, 127], [127]), some (0, 0, 2, [127, 127], [127]), some (0, 0, 2, [126], [126]), some (0, 0, 2, [126], [126]), some (0, 0, 2, [126], [126]), some (0, 0, 2, [126, 126], [126]), some (0, 0, 2, [126, 126], [126]), some (0, 0, 2, [126, 126], [126]), some (0, 0, 2, [126, 126], [126]), some (0, 0, 2, [126, 126], [126]), some (0, 0, 2, [126, 126], [126]), some (0, 0, 2, [126, 126], [126]), some (0, 0, 2, [126, 126], [126]), some (0, 0, 2, [126, 126], [126]), some (0, 0, 2, [126, 126], [126]), some (0, 0, 2, [126, 126], [126]), some (0, 0, 2, [126, 126], [126]), some (0, 0, 2, [126, 126], [126]), some (0, 0, 2, [126, 126], [126]), some (0, 0, 2, [126, 126], [126]), some (0, 0, 2, [125], [125]), some (0, 0, 2, [125], [125]), some (0, 0, 2, [125], [125]), some (0, 0, 2, [125], [125]), some (0, 0, 2, [125], [125]), some (0, 0, 2, [125], [125]), some (0, 0, 2, [125], [125]), some (0, 0, 2, [125, 125], [125]), some (0, 0, 2, [125, 125], [125]), some (0, 0, 2, [125, 125], [125]), some (0, 0, 2, [125, 125], [125]), some (0, 0, 2, [125, 125], [125]), some (0, 0, 2, [125, 125], [125]), some (0, 0, 2, [125, 125], [125]), some (0, 0, 2, [124], [124]), some (0, 0, 2, [124], [124]), some (0, 0, 2, [124], [124]), some (0, 0, 2, [124], [124]), some (0, 0, 2, [124], [124]), some (0, 0, 2, [124], [124]), some (0, 0, 2, [124], [124]), some (0, 0, 2, [124, 124], [124]), some (0, 0, 2, [124, 124], [124]), some (0, 0, 2, [124, 124], [124]), some (0, 0, 2, [124, 124], [124]), some (0, 0, 2, [124, 124], [124]), some (0, 0, 2, [124, 124], [124]), some (0, 0, 2, [124, 124], [124]), some (0, 0, 2, [126], [127]), some (0, 0, 2, [125], [127]), some (0, 0, 2, [125], [127]), some (0, 0, 2, [124], [127]), some (0, 0, 2, [124], [127]), some (0, 0, 2, [127], [126]), some (0, 0, 2, [127], [126]), some (0, 0, 2, [125], [126]), some (0, 0, 2, [125], [126]), some (0, 0, 2, [124], [126]), some (0, 0, 2, [124], [126]), some (0, 0, 2, [127], [125]), some (0, 0, 2, [127], [125]), some (0, 0, 2, [126], [125]), some (0, 0, 2, [126], [125]), some (0, 0, 2, [124], [125]), some (0, 0, 2, [127], [124]), some (0, 0, 2, [127], [124]), some (0, 0, 2, [126], [124]), some (0, 0, 2, [126], [124]), some (0, 0, 2, [125], [124]), some (0, 0, 2, [125], [127]), some (0, 0, 2, [124], [126]), some (0, 0, 2, [127], [125]), some (0, 0, 2, [126], [124]), some (0, 0, 2, [127], [127]), some (0, 0, 2, [127], [127]), some (0, 0, 2, [126], [126]), some (0, 0, 2, [126], [126]), some (0, 0, 2, [126], [126]), none, none, none, none, none, none, none, none, none, none, none, some (25, 0, 2, [], []), some (0, 0, 2, [], []), some (4, 0, 2, [], []), none, none, none, none, none, none, none, none, none, none, none, none, none, none, none, none, none, none, none, none, none, none, none, none, none, none, none, none, none, none, none, none, none, none, none, none, none, none, none, none, none, none, none, none, none]
def pageC : List (Option Inf) := [some (0, 0, 2, [125], [127]), some (0, 0, 2, [125], [127]), some (0, 0, 2, [124], [127]), some (0, 0, 2, [124], [127]), some (0, 0, 2, [125], [126]), some (0, 0, 2, [125], [126]), some (0, 0, 2, [124], [126]), some (0, 0, 2, [124], [126]), some (13, 0, 2, [127, 127, 127], []), some (12, 0, 2, [], []), some (15, 0, 2, [127, 127, 127], []), some (14, 0, 2, [127, 127, 127], []), some (9, 0, 2, [], []), some (10, 0, 2, [], []), some (11, 0, 2, [], []), some (8, 0, 2, [], []), some (8, 0, 2, [], []), some (8, 0, 2, [], []), none, none, none, none, none, none, none, none, none, none, none, none, none, none, none, none, none, none, none, none, none, none, none, none, none, none, none, none, none, none, none, none, none, none, none, none, none, none, none, none, none, none, none, none, none, none, none, none, none, none, none, none, none, none, none, none, none, none, none, none, none, none, none, none, none, none, none, none, none, none, none, none, none, none, none, none, none, none, none, none, none, none, none, none, none, none, none, none, none, none, none, none, none, none, none, none, none, none, none, none, none, none, none, none, none, none, none, none, none, none, none, none, none, none, none, none, none, none, none, none, none, none, none, none, none, none, none, none, none, none, none, none, none, none, none, none, none, none, none, none, none, none, none, none, none, none, none, none, none, none, none, none, none, none, none, none, none, none, none, none, none, none, none, none, none, none, none, none, none, none, none, none, none, none, none, none, none, none, none, none, none, none, none, none, none, none, none, none, none, none, none, none, none, none, none, none, none, none, none, none, none, none, none, none, none, none, none, none, none, none, none, none, none, none, none, none, none, none, none, none, none, none, none, none, none, none, none, none, none, none, none, none, none, none, none, none, none, none]
def pageD : List (Option Inf) := [some (16, 128, 2, [127], [123]), some (16, 64, 2, [127], [123]), some (16, 64, 2, [127], [123]), some (16, 64, 2, [127], [123]), some (16, 64, 2, [127], [123]), some (16, 64, 2, [127], [123]), some (16, 64, 2, [127], [123]), some (16, 8, 2, [127], [123]), some (16, 16, 2, [127], [123]), some (16, 32, 2, [127], [123]), some (16, 64, 2, [127], [123]), some (16, 128, 2, [127, 123], []), some (24, 0, 2, [], [123]), some (19, 0, 16, [123, 123], [123]), some (0, 0, 16, [123, 123], [123]), some (0, 0, 16, [127], [123]), some (0, 0, 8, [127], [123]), some (0, 0, 4, [127], [123]), some (0, 0, 2, [126], [123]), some (0, 0, 4, [125], [123]), some (0, 0, 2, [124], [123]), some (18, 0, 16, [123], [127]), some (18, 0, 16, [123], [127]), some (18, 0, 16, [123, 127], [123]), some (18, 0, 8, [123], [127]), some (18, 0, 8, [123], [127]), some (18, 0, 8, [123, 127], [123]), some (18, 0, 4, [123], [127]), some (18, 0, 4, [123, 127], [123]), some (18, 0, 2, [123], [126]), some (18, 0, 2, [123, 126], [123]), some (18, 0, 4, [123], [125]), some (18, 0, 4, [123, 125], [123]), some (18, 0, 2, [123], [124]), some (18, 0, 2, [123, 124], [123]), some (0, 0, 16, [123, 123], [123]), some (0, 0, 16, [123, 123], [123]), some (0, 0, 16, [123, 123], [123]), some (0, 0, 16, [123, 123], [123]), some (0, 0, 16, [123, 123], [123]), some (0, 0, 16, [123, 123], [123]), some (0, 0, 16, [123, 123], [123]), some (0, 0, 16, [123, 123], [123]), some (0, 0, 16, [123, 123], [123]), some (0, 0, 16, [123, 123], [123]), some (0, 0, 8, [123, 123], [123]), some (0, 0, 8, [123, 123], [123]), some (0, 0, 8, [123, 123], [123]), some (0, 0, 8, [123, 123], [123]), some (0, 0, 8, [123, 123], [123]), some (0, 0, 8, [123, 123], [123]), some (0, 0, 8, [123, 123], [123]), some (0, 0, 8, [123, 123], [123]), some (0, 0, 8, [123, 123], [123]), some (0, 0, 8, [123, 123], [123]), some (0, 0, 4, [123, 123], [123]), some (0, 0, 4, [123, 123], [123]), some (0, 0, 4, [123, 123], [123]), some (0, 0, 4, [123, 123], [123]), some (0, 0, 4, [123, 123], [123]), some (0, 0, 4, [123, 123], [123]), some (0, 0, 4, [123, 123], [123]), some (0, 0, 4, [123, 123], [123]), some (0, 0, 4, [123, 123], [123]), some (0, 0, 4, [123, 123], [123]), some (0, 0, 4, [123, 123], [123]), some (0, 0, 4, [123, 123], [123]), some (0, 0, 4, [123, 123], [123]), some (0, 0, 4, [123, 123], [123]), some (0, 0, 4, [123, 123], [123]), some (0, 0, 4, [123, 123], [123]), some (0, 0, 2, [123, 123], [123]), some (0, 0, 2, [123, 123], [123]), some (0, 0, 2, [123, 123], [123]), some (0, 0, 2, [123, 123], [123]), some (0, 0, 2, [123, 123], [123]), some (0, 0, 2, [123, 123], [123]), some (0, 0, 2, [123], [123]), some (0, 0, 2, [123, 123], [123]), some (0, 0, 2, [123, 123], [123]), some (0, 0, 2, [123, 123], [123]), some (0, 0, 2, [123, 123], [123]), some (0, 0, 2, [123, 123, 123], [123]), some (0, 0, 2, [123], [127]), some (17, 8, 2, [127, 123], [123]), some (17, 16, 2, [127, 123], [123]), some (17, 32, 2, [127, 123], [123]), some (17, 64, 2, [127, 123], [123]), some (17, 8, 2, [127, 123], []), some (17, 16, 2, [127, 123], []), some (17, 32, 2, [127, 123], []), some (17, 64, 2, [127, 123], []), some (16, 32, 2, [127], [123]), some (16, 64, 2, [127], [123]), some (0, 0, 4, [123], [123]), some (0, 0, 2, [123], [123]), some (0, 0, 16, [123], [123]), some (0, 0, 16, [123], [123]), some (0, 0, 16, [123], [123]), some (0, 0, 16, [123], [127]), some (0, 0, 16, [123], [127]), some (0, 0, 16, [123, 123], [123]), some (0, 0, 16, [123, 123], [123]), some (0, 0, 4, [123], [123]), some (0, 0, 4, [123], [123]), some (0, 0, 4, [123], [123]), some (0, 0, 4, [123], [123]), some (0, 0, 16, [123, 127], [123]), some (0, 0, 16, [123, 127], [123]), some (0, 0, 16, [123, 127], [123]), some (0, 0, 16, [123, 123], [123]), some (0, 0, 16, [123, 123], [123]), some (0, 0, 16, [123, 123], [123]), some (0, 0, 16, [123, 123], [123]), some (0, 0, 16, [123, 123], [123]), some (0, 0, 16, [123, 123], [123]), some (0, 0, 2, [123], [123]), some (0, 0, 2, [123], [123]), some (0, 0, 16, [123, 123], [123]), some (0, 0, 16, [123, 123], [123]), some (0, 0, 16, [123, 123], [123]), some (0, 0, 16, [123, 123], [123]), some (0, 0, 2, [123], [123]), some (0, 0, 16, [123, 123], [123]), some (0, 0, 8, [123], [123]), some (0, 0, 8, [123], [123]), some (0, 0, 4, [123], [123]), some (0, 0, 4, [123], [123]), some (0, 0, 8, [123], [123]), some (0, 0, 8, [123], [123]), some (0, 0, 8, [123, 123], [123]), some (0, 0, 8, [123], [127]), some (0, 0, 8, [123], [127]), some (0, 0, 8, [123, 123], [123]), some (0, 0, 8, [123, 123], [123]), some (0, 0, 8, [123], [123]), some (0, 0, 8, [123], [123]), some (0, 0, 8, [123], [123]), some (0, 0, 8, [123], [123]), some (0, 0, 8, [123, 127], [123]), some (0, 0, 8, [123, 127], [123]), some (0, 0, 8, [123, 127], [123]), some (0, 0, 8, [123, 123], [123]), some (0, 0, 8, [123, 123], [123]), some (0, 0, 8, [123, 123], [123]), some (0, 0, 8, [123, 123], [123]), some (0, 0, 8, [123, 123], [123]), some (0, 0, 8, [123, 123], [123]), some (0, 0, 2, [123], [123]), some (0, 0, 8, [123, 123], [123]), some (0, 0, 8, [123, 123], [123]), some (0, 0, 8, [123, 123], [123]), some (0, 0, 8, [123, 123], [123]), some (0, 0, 8, [123, 123], [123]), none, some (0, 0, 8, [123, 123], [123]), some (0, 0, 8, [123, 123], [123]), some (0, 0, 8, [123, 123], [123]), some (0, 0, 8, [123, 123], [123]), some (0, 0, 8, [123, 123], [123]), some (0, 0, 4, [123], [123]), some (0, 0, 4, [123], [123]), none, some (0, 0, 4, [123], [127]), some (0, 0, 4, [123], [127]), none, none, some (0, 0, 4, [123], [123]), some (0, 0, 4, [123], [123]), some (0, 0, 4, [123], [123]), some (0, 0, 4, [123], [123]), some (0, 0, 4, [123, 127], [123]), some (0, 0, 4, [123, 127], [123]), some (0, 0, 4, [123, 127], [123]), some (0, 0, 4, [123, 123], [123]), none, none, some (0, 0, 4, [123, 123], [123]), none, none, none, some (0, 0, 4, [123, 123], [123]), some (0, 0, 4, [123, 123], [123]), some (0, 0, 4, [123, 123], [123]), some (0, 0, 4, [123, 123], [123]), some (0, 0, 4, [123, 123], [123]), some (0, 0, 4, [123, 123], [123]), none, some (0, 0, 4, [123, 123], [123]), some (0, 0, 4, [123, 123], [123]), some (0, 0, 4, [123, 123], [123]), some (0, 0, 4, [123, 123], [123]), some (0, 0, 2, [123], [123]), some (0, 0, 2, [123], [123]), none, some (0, 0, 2, [123], [127]), some (0, 0, 2, [123], [127]), none, none, some (0, 0, 2, [123], [123]), some (0, 0, 2, [123], [123]), some (0, 0, 2, [123], [123]), some (0, 0, 2, [123], [123]), some (0, 0, 2, [123, 127], [123]), some (0, 0, 2, [123, 127], [123]), some (0, 0, 2, [123, 127], [123]), some (0, 0, 2, [123, 123], [123]), none, none, some (0, 0, 2, [123, 123], [123]), none, none, none, some (0, 0, 2, [123, 123], [123]), some (0, 0, 2, [123, 123], [123]), some (0, 0, 2, [123, 123], [123]), some (0, 0, 2, [123, 123], [123]), some (0, 0, 2, [123, 123], [123]), some (0, 0, 2, [123, 123], [123]), some (0, 0, 2, [123, 123], [123]), some (0, 0, 2, [123, 123], [123]), some (0, 0, 2, [123, 123], [123]), some (0, 0, 2, [123, 123], [123]), some (0, 0, 2, [123, 123], [123]), some (0, 0, 4, [123], [123]), some (0, 0, 4, [123], [123]), none, some (0, 0, 4, [123], [123]), some (0, 0, 4, [123, 123], [123]), some (0, 0, 4, [123, 123], [123]), some (0, 0, 4, [123, 123], [123]), some (0, 0, 4, [123, 123], [123]), some (0, 0, 4, [123, 123], [123]), some (0, 0, 4, [123, 123], [123]), some (0, 0, 4, [123, 123], [123]), some (0, 0, 4, [123, 123], [123]), some (0, 0, 2, [123], [123]), some (0, 0, 2, [123], [123]), none, some (0, 0, 2, [123], [123]), some (0, 0, 2, [123, 123], [123]), some (0, 0, 2, [123, 123], [123]), some (0, 0, 2, [123, 123], [123]), some (0, 0, 2, [123, 123], [123]), some (0, 0, 2, [123, 123], [123]), some (0, 0, 2, [123, 123], [123]), some (0, 0, 2, [123, 123], [123]), some (0, 0, 2, [123, 123], [123]), some (0, 0, 4, [123], [123]), some (0, 0, 4, [123], [123]), some (0, 0, 4, [123], [123]), some (0, 0, 4, [123], [123]), some (0, 0, 4, [123], [123]), some (0, 0, 4, [123], [123]), some (0, 0, 2, [123], [123]), some (0, 0, 2, [123], [123])]
/-- What is known of an instruction. -/
def inf (o : Nat) : Option Inf := if o < 256 then pageA.getD o none else if 64512 ≤ o ∧ o < 64768 then pageC.getD (o - 64512) none else if 64768 ≤ o ∧ o < 65024 then pageD.getD (o - 64768) none else none
def shapeL (l : List UInt8) : Nat := if l = [105, 56, 120, 49, 54] then 16 else if l = [105, 49, 54, 120, 56] then 8 else if l = [105, 51, 50, 120, 52] ∨ l = [102, 51, 50, 120, 52] then 4 else 2
def dot : UInt8 := 46
def shapeN (s : ByteArray) : Nat := shapeL (cutL s dot).data.toList
def infRow (r : RowP) : Inf := (r.imm, r.bits, shapeN r.name, (fromP r).map (·.toNat), (toP r).map (·.toNat))
def wordL (l : List UInt8) (n : Nat) : List UInt8 := if (Lib.fields l).length = 1 then (Lib.fields l).getD 0 [] else (Lib.fields l).getD n []
theorem getD_map {α β : Type} (f : α → β) (l : List α) (n : Nat) (a : α) (b : β) (h : f a = b) : (l.map f).getD n b = f (l.getD n a) := by
  rw [List.getD_eq_getElem?_getD, List.getD_eq_getElem?_getD, List.getElem?_map]
  cases l[n]? with
  | none => exact h.symm
  | some x => rfl
theorem wordP_eq (s : ByteArray) (n : Nat) : wordP s n = ⟨(wordL s.data.toList n).toArray⟩ := by
  unfold wordP wordsP wordL
  rw [List.length_map]
  split
  · exact getD_map (fun l : List UInt8 => (⟨l.toArray⟩ : ByteArray)) _ _ [] _ rfl
  · exact getD_map (fun l : List UInt8 => (⟨l.toArray⟩ : ByteArray)) _ _ [] _ rfl
/-- A row over lists. -/
structure RowK where
  name : List UInt8
  types : List UInt8
  imm : Nat
  bits : Nat
def RowK.inf (r : RowK) : Inf := (r.imm, r.bits, shapeL (Lib.cut r.name [dot]).1, ((Lib.cut r.types [colon]).1.filterMap tyOf).map (·.toNat), ((Lib.cut r.types [colon]).2.1.filterMap tyOf).map (·.toNat))
def rowK (r : RowP) : RowK := ⟨r.name.data.toList, r.types.data.toList, r.imm, r.bits⟩
def atK (g : Grp) (k : Nat) : RowK := ⟨g.ahead.data.toList ++ (piecesL g.names sp).getD k [], wordL g.types.data.toList k, g.imm, bitsP (wordL g.bits.data.toList k)⟩
theorem atK_eq (g : Grp) (k : Nat) : rowK (g.at_ k) = atK g k := by
  unfold rowK Grp.at_ atK
  simp only [RowK.mk.injEq, true_and]
  refine ⟨?_, ?_, ?_⟩
  · rw [piecesP_eq, getD_map (fun l : List UInt8 => (⟨l.toArray⟩ : ByteArray)) _ _ [] ByteArray.empty rfl]
    simp
  · rw [wordP_eq]
  · rw [wordP_eq]
def findQ : List (Grp × Nat) → Nat → Option RowK
  | [], _ => none
  | g :: r, n => if n < g.1.first ∨ g.2 < n - g.1.first then findQ r n else some (atK g.1 (n - g.1.first))
theorem findQ_eq : ∀ (l : List Grp) (c : List Nat) (n : Nat), l.map (fun g => Lib.countB g.names ⟨#[sp]⟩) = c → (findP l n).map rowK = findQ (l.zip c) n
  | [], c, n, h => by subst h; rfl
  | g :: r, c, n, h => by
    subst h
    rw [List.map_cons, List.zip_cons_cons, findP, findQ]
    dsimp only
    split
    · exact findQ_eq r _ n rfl
    · rw [Option.map_some, atK_eq]
theorem cnt_control : t_control.map (fun g => Lib.countB g.names ⟨#[sp]⟩) = [1, 2, 1, 0, 0, 0, 0, 1, 0, 2, 1, 1, 3, 3, 5, 3, 4, 1, 0, 0, 0] := by kernel_rfl
theorem cnt_numeric : t_numeric.map (fun g => Lib.countB g.names ⟨#[sp]⟩) = [0, 0, 0, 0, 0, 9, 0, 9, 5, 5, 2, 14, 2, 14, 6, 6, 6, 6, 4, 5, 4, 4, 3, 4] := by kernel_rfl
theorem cnt_misc : t_misc.map (fun g => Lib.countB g.names ⟨#[sp]⟩) = [3, 3, 0, 0, 0, 0, 0, 0, 0, 2] := by kernel_rfl
theorem cnt_vectors : t_vectors.map (fun g => Lib.countB g.names ⟨#[sp]⟩) = [10, 0, 0, 0, 0, 5, 13, 9, 9, 9, 5, 5, 6, 3, 3, 1, 1] := by kernel_rfl
theorem cnt_odd : t_odd.map (fun g => Lib.countB g.names ⟨#[sp]⟩) = [0, 3, 1, 0, 1, 1, 0, 0, 0, 5, 1, 0, 7, 1, 0, 7, 1, 1, 1, 1] := by kernel_rfl
def k_control : List (Grp × Nat) := t_control.zip [1, 2, 1, 0, 0, 0, 0, 1, 0, 2, 1, 1, 3, 3, 5, 3, 4, 1, 0, 0, 0]
def k_numeric : List (Grp × Nat) := t_numeric.zip [0, 0, 0, 0, 0, 9, 0, 9, 5, 5, 2, 14, 2, 14, 6, 6, 6, 6, 4, 5, 4, 4, 3, 4]
def k_misc : List (Grp × Nat) := t_misc.zip [3, 3, 0, 0, 0, 0, 0, 0, 0, 2]
def k_vectors : List (Grp × Nat) := t_vectors.zip [10, 0, 0, 0, 0, 5, 13, 9, 9, 9, 5, 5, 6, 3, 3, 1, 1]
def k_odd : List (Grp × Nat) := t_odd.zip [0, 3, 1, 0, 1, 1, 0, 0, 0, 5, 1, 0, 7, 1, 0, 7, 1, 1, 1, 1]
def lanesL : List UInt8 := [105, 56, 120, 49, 54, 46, 32, 105, 49, 54, 120, 56, 46, 32, 105, 51, 50, 120, 52, 46, 32, 105, 54, 52, 120, 50, 46]
def vectorK (n : Nat) : Option RowK :=
  if n < 96 then findQ k_vectors n
  else match findQ k_odd n with
    | some r => some r
    | none => if 224 ≤ n then none else if (shapeP ((n - 96) / 32) ((n - 96) % 32)).1.data.toList.isEmpty then none else some ⟨wordL lanesL ((n - 96) / 32) ++ (shapeP ((n - 96) / 32) ((n - 96) % 32)).1.data.toList, (shapeP ((n - 96) / 32) ((n - 96) % 32)).2.data.toList, 0, 0⟩
def lookK (o : Nat) : Option RowK :=
  if 64768 ≤ o ∧ o ≤ 65023 then vectorK (o - 64768)
  else if 64512 ≤ o ∧ o ≤ 64767 then findQ k_misc (o - 64512)
  else if 255 < o then none
  else if 65 ≤ o ∧ o < 208 then findQ k_numeric o
  else findQ k_control o
/-- The row that was found. -/
def okR (r : RowP × Bool) : Option RowK := if r.2 = true then some (rowK r.1) else none
theorem okR_find (l : List Grp) (c : List Nat) (n : Nat) (h : l.map (fun g => Lib.countB g.names ⟨#[sp]⟩) = c) : okR ((findP l n).getD RowP.zero, (findP l n).isSome) = findQ (l.zip c) n := by
  rw [← findQ_eq l c n h]
  cases findP l n <;> rfl
theorem vectorK_eq (n : Nat) : okR (vectorR n) = vectorK n := by
  unfold vectorR vectorK
  split
  · exact okR_find _ _ _ cnt_vectors
  · have ho := findQ_eq t_odd _ n cnt_odd
    cases hf : findP t_odd n with
    | some r =>
      rw [hf] at ho
      rw [show findQ k_odd n = some (rowK r) from ho.symm]
      rfl
    | none =>
      rw [hf] at ho
      rw [show findQ k_odd n = none from ho.symm]
      simp only [Option.isSome_none, Bool.false_eq_true, if_false]
      split
      · rfl
      · unfold okR
        by_cases he : (shapeP ((n - 96) / 32) ((n - 96) % 32)).1.data.toList.isEmpty = true
        · rw [if_pos he, he]; rfl
        · rw [if_neg he]
          have hb : (shapeP ((n - 96) / 32) ((n - 96) % 32)).1.data.toList.isEmpty = false := by simpa using he
          rw [hb]
          show some _ = some _
          congr 1
          unfold rowK
          simp only [wordP_eq, RowK.mk.injEq, and_true]
          exact ByteArray.data_append ▸ by simp [lanesL]
theorem lookK_eq (o : Nat) : okR (lookR o) = lookK o := by
  unfold lookR lookK
  split
  · exact vectorK_eq _
  · split
    · exact okR_find _ _ _ cnt_misc
    · split
      · rfl
      · split
        · exact okR_find _ _ _ cnt_numeric
        · exact okR_find _ _ _ cnt_control
def smallK (r : RowK) : Bool := r.types.length ≤ 1000 && (r.types.all fun b => b.toNat < 128) && r.name.length ≤ 1000
def rightK (r : Option RowK) (i : Option Inf) : Bool := match r, i with | none, none => true | some r, some i => r.inf == i && smallK r | _, _ => false
set_option maxRecDepth 100000 in
theorem rightA : ((List.range 256).all fun n => rightK (lookK n) (pageA.getD n none)) = true := by kernel_rfl
set_option maxRecDepth 100000 in
theorem rightC : ((List.range 256).all fun n => rightK (lookK (64512 + n)) (pageC.getD n none)) = true := by kernel_rfl
set_option maxRecDepth 100000 in
theorem rightD : ((List.range 256).all fun n => rightK (lookK (64768 + n)) (pageD.getD n none)) = true := by kernel_rfl
theorem right_any (o : Nat) : rightK (lookK o) (inf o) = true := by
  unfold inf
  split
  · exact List.all_eq_true.1 rightA o (List.mem_range.2 (by omega))
  · split
    · have := List.all_eq_true.1 rightC (o - 64512) (List.mem_range.2 (by omega))
      rwa [show 64512 + (o - 64512) = o by omega] at this
    · split
      · have := List.all_eq_true.1 rightD (o - 64768) (List.mem_range.2 (by omega))
        rwa [show 64768 + (o - 64768) = o by omega] at this
      · unfold lookK
        rw [if_neg (by omega), if_neg (by omega), if_pos (by omega)]
        rfl
end Go.Proofs.YtfmblalbcodpmaaDoor
namespace Go.Proofs.YtfmblalbcodpmaaDoor
open Go.RowKit
def nV (n : Nat) : Value := .int .u8 (n : Int)
def infoZ : Array Value := #[.int .u16 0, .string { data := #[] }, .int .u8 0, .slice none 0 0, .slice none 0 0, .int .i64 0, .bool false]
/-- What is told of an instruction that is one. -/
structure InfoIs (w w' : World) (i : Inf) (name : ByteArray) (vf vt : Value) : Prop where
  small : name.size ≤ 1000
  shape : shapeN name = i.2.2.1
  from_ : OwnL w' w.heap.size 53 1 vf i.2.2.2.1.length (i.2.2.2.1.map nV)
  to_ : OwnL w' w.heap.size 53 1 vt i.2.2.2.2.length (i.2.2.2.2.map nV)
def OfIs (w : World) (o : Nat) (e : Ending) (w' : World) : Prop :=
  Kept S0 w w' ∧ ((inf o = none ∧ e = .returned (.tuple #[.agg infoZ, .int .i64 11])) ∨
    ∃ i name plain vf vt, inf o = some i ∧ e = .returned (.tuple #[.agg #[.int .u16 (o : Int), .string name, .int .u8 (i.1 : Int), vf, vt, .int .i64 (i.2.1 : Int), .bool plain], .int .i64 0]) ∧ InfoIs w w' i name vf vt)
theorem of_any (o : Nat) (w : World) (ho : o < 65536) (hsp : SpTab w) : Calls Tryd.prog 60 #[.int .u16 (o : Int)] w (OfIs w o) := by
  have hr := right_any o
  have hk := lookK_eq o
  have hty : (lookR o).1.types.size ≤ 1000 ∧ Ascii (lookR o).1.types ∨ (lookR o).2 = false := by
    by_cases h2 : (lookR o).2 = true
    · refine .inl ?_
      unfold okR at hk
      rw [if_pos h2] at hk
      rw [← hk] at hr
      cases hi : inf o with
      | none => rw [hi] at hr; cases hr
      | some i =>
        rw [hi] at hr
        simp only [rightK, smallK, Bool.and_eq_true, decide_eq_true_eq, List.all_eq_true] at hr
        refine ⟨?_, fun j b hb => ?_⟩
        · rw [Lib.size_eq]; exact hr.2.1.1
        · exact hr.2.1.2 b (List.mem_of_getElem? hb)
    · exact .inr (by simpa using h2)
  have hz : lookR o = ((lookR o).1, (lookR o).2) := rfl
  by_cases h2 : (lookR o).2 = true
  · have hty' := hty.resolve_right (by rw [h2]; simp)
    refine (of_row o w ho hsp (fun _ => hty')).mono ?_
    intro e w' h
    unfold OfRet at h
    rw [if_pos h2] at h
    obtain ⟨vf, vt, he, hf, ht, hkk⟩ := h
    unfold okR at hk
    rw [if_pos h2] at hk
    rw [← hk] at hr
    cases hi : inf o with
    | none => rw [hi] at hr; cases hr
    | some i =>
      rw [hi] at hr
      simp only [rightK, smallK, Bool.and_eq_true, decide_eq_true_eq, beq_iff_eq] at hr
      obtain ⟨h1, ⟨_, _⟩, h3⟩ := hr
      have h1 : infRow (lookR o).1 = i := h1
      subst h1
      have e1 : ∀ l : List UInt8, l.map u8V = (l.map (·.toNat)).map nV := fun l => by rw [List.map_map]; rfl
      refine ⟨hkk, .inr ⟨_, (lookR o).1.name, (lookR o).1.plain, vf, vt, hi, he, (by rw [Lib.size_eq]; exact h3), rfl, ?_, ?_⟩⟩
      · have := hf
        rw [e1] at this
        show OwnL _ _ _ _ _ ((fromP (lookR o).1).map (·.toNat)).length _
        rw [List.length_map]
        exact this
      · have := ht
        rw [e1] at this
        show OwnL _ _ _ _ _ ((toP (lookR o).1).map (·.toNat)).length _
        rw [List.length_map]
        exact this
  · have h2' : (lookR o).2 = false := by simpa using h2
    refine (of_none o w ho hsp h2').mono ?_
    rintro e w' ⟨he, hkk⟩
    unfold okR at hk
    rw [if_neg h2] at hk
    rw [← hk] at hr
    cases hi : inf o with
    | none => exact ⟨hkk, .inl ⟨hi, he⟩⟩
    | some i => rw [hi] at hr; cases hr
end Go.Proofs.YtfmblalbcodpmaaDoor
namespace Go.Proofs.YtfmblalbcodpmaaDoor
open Go.RowKit
def nV32 (n : Nat) : Value := .int .u32 (n : Int)
def isT (t : Nat) : Bool := t == 127 || t == 126 || t == 125 || t == 124 || t == 123 || t == 112 || t == 111
def isRefT (t : Nat) : Bool := t == 112 || t == 111
def isBlk (o : Nat) : Bool := o == 2 || o == 3 || o == 4
set_option maxRecDepth 100000 in
set_option maxHeartbeats 1600000 in
theorem is_any (t : Nat) (w : World) : Calls Tryd.prog 30 #[.int .u8 (t : Int)] w fun e w' => e = .returned (.bool (isT t)) ∧ w' = w := by
  have HP := Lib.hid (show isT t = (t == 127 || t == 126 || t == 125 || t == 124 || t == 123 || t == 112 || t == 111) from rfl)
  by_cases h127 : t = 127
  · subst h127
    go_enter Tryd.func30, Tryd.ntmps30
    go_wp2_with fail
    go_ret
    exact ⟨rfl, rfl⟩
  have i127 : ¬ (t : Int) = 127 := by omega
  by_cases h126 : t = 126
  · subst h126
    go_enter Tryd.func30, Tryd.ntmps30
    go_wp2_with fail
    go_ret
    exact ⟨rfl, rfl⟩
  have i126 : ¬ (t : Int) = 126 := by omega
  by_cases h125 : t = 125
  · subst h125
    go_enter Tryd.func30, Tryd.ntmps30
    go_wp2_with fail
    go_ret
    exact ⟨rfl, rfl⟩
  have i125 : ¬ (t : Int) = 125 := by omega
  by_cases h124 : t = 124
  · subst h124
    go_enter Tryd.func30, Tryd.ntmps30
    go_wp2_with fail
    go_ret
    exact ⟨rfl, rfl⟩
  have i124 : ¬ (t : Int) = 124 := by omega
  by_cases h123 : t = 123
  · subst h123
    go_enter Tryd.func30, Tryd.ntmps30
    go_wp2_with fail
    go_ret
    exact ⟨rfl, rfl⟩
  have i123 : ¬ (t : Int) = 123 := by omega
  by_cases h112 : t = 112
  · subst h112
    go_enter Tryd.func30, Tryd.ntmps30
    go_wp2_with fail
    go_ret
    exact ⟨rfl, rfl⟩
  have i112 : ¬ (t : Int) = 112 := by omega
  by_cases h111 : t = 111
  · subst h111
    go_enter Tryd.func30, Tryd.ntmps30
    go_wp2_with fail
    go_ret
    exact ⟨rfl, rfl⟩
  have i111 : ¬ (t : Int) = 111 := by omega
  go_enter Tryd.func30, Tryd.ntmps30
  go_wp2_with fail
  go_ret
  exact ⟨by rw [HP.out]; simp [h127, h126, h125, h124, h123, h112, h111], rfl⟩
set_option maxRecDepth 100000 in
set_option maxHeartbeats 1600000 in
theorem isref_any (t : Nat) (w : World) : Calls Tryd.prog 79 #[.int .u8 (t : Int)] w fun e w' => e = .returned (.bool (isRefT t)) ∧ w' = w := by
  have HP := Lib.hid (show isRefT t = (t == 112 || t == 111) from rfl)
  go_enter Tryd.func79, Tryd.ntmps79
  go_wp2_with fail
  all_goals
    go_ret
    exact ⟨ret_bool (by rw [HP.out, Bool.eq_iff_iff]; simp; omega), rfl⟩
set_option maxRecDepth 100000 in
set_option maxHeartbeats 1600000 in
theorem isblock_any (t : Nat) (w : World) : Calls Tryd.prog 77 #[.int .u16 (t : Int)] w fun e w' => e = .returned (.bool (isBlk t)) ∧ w' = w := by
  have HP := Lib.hid (show isBlk t = (t == 2 || t == 3 || t == 4) from rfl)
  go_enter Tryd.func77, Tryd.ntmps77
  go_wp2_with fail
  all_goals
    go_ret
    exact ⟨ret_bool (by rw [HP.out, Bool.eq_iff_iff]; simp; omega), rfl⟩
set_option maxRecDepth 100000 in
set_option maxHeartbeats 3200000 in
theorem eq32_any (A B : Option Addr) (n c m d : Nat) (L M : List Nat) (w : World) (hA : SlL w 1 A n c (L.map nV32)) (hB : SlL w 1 B m d (M.map nV32)) (hn : n ≤ 9223372036854775806) (hm : m ≤ 9223372036854775806) :
    Calls Tryd.prog 98 #[.slice A n c, .slice B m d] w fun e w' => e = .returned (.bool (decide (L = M))) ∧ ∃ q, w' = w.drewN q := by
  have hl : L.length = n := by have := hA.len; simpa using this
  have ml : M.length = m := by have := hB.len; simpa using this
  have HA := Lib.hid hA
  have HB := Lib.hid hB
  have HL := Lib.hid hl
  have HM := Lib.hid ml
  clear hl ml hA hB
  by_cases hnm : n = m
  · subst hnm
    go_enter Tryd.func98, Tryd.ntmps98
    go_wp2_with fail
    go_loopw [13] (fun i wr => ∃ k : Nat, k ≤ n ∧ i = .int .i64 (k : Int) ∧ (∃ q, wr = w.drewN q) ∧ L.take k = M.take k) (fun i _ => n + 1 - (intOf i).toNat)
    case atStart => exact ⟨0, Nat.zero_le _, rfl, ⟨0, rfl⟩, rfl⟩
    case round =>
      obtain ⟨k, hk, rfl, ⟨q, rfl⟩, hlm⟩ := hrel
      have HLM := Lib.hid hlm
      clear hlm
      by_cases hlt : k < n
      · obtain ⟨b, o, rfl, hc⟩ := HA.out.at (by omega)
        obtain ⟨b2, o2, rfl, hc2⟩ := HB.out.at (by omega)
        have hkL : k < L.length := by have := HL.out; omega
        have hkM : k < M.length := by have := HM.out; omega
        have d1 : w.cell? ⟨b, o + k, none⟩ = some (.int .u32 ((L[k] : Nat) : Int)) := hc k _ (by simp [List.getElem?_eq_getElem hkL, nV32])
        have d2 : w.cell? ⟨b2, o2 + k, none⟩ = some (.int .u32 ((M[k] : Nat) : Int)) := hc2 k _ (by simp [List.getElem?_eq_getElem hkM, nV32])
        have e1 : (w.drewN q).cell? ⟨b, o + k, none⟩ = some (.int .u32 ((L[k] : Nat) : Int)) := d1
        have e2 : (w.drewN q).cell? ⟨b2, o2 + k, none⟩ = some (.int .u32 ((M[k] : Nat) : Int)) := d2
        have hlti : (k : Int) < (n : Int) := by omega
        have HT := Lib.hid (show L.take (k + 1) = L.take k ++ [L[k]] ∧ M.take (k + 1) = M.take k ++ [M[k]] from ⟨by rw [List.take_add_one, List.getElem?_eq_getElem hkL]; rfl, by rw [List.take_add_one, List.getElem?_eq_getElem hkM]; rfl⟩)
        have HN := Lib.hid (show L[k] ≠ M[k] → L ≠ M from fun h e => h (by subst e; rfl))
        clear d1 d2 hc hc2
        generalize L[k] = x at *
        generalize M[k] = y at *
        clear hkL hkM
        generalize hwq : w.drewN q = wq at *
        by_cases hxy : x = y
        · have HXY := Lib.hid hxy
          subst hxy
          go_wp2_with fail
          go_quiet (fail)
          go_wp2_with fail
          go_roundw
          case rel => exact ⟨k + 1, by omega, by go_num, ⟨q + nq, by rw [← hwq]; show World.drewN _ _ = _; simp [World.drewN, Nat.add_assoc]⟩, by rw [HT.out.1, HT.out.2, HLM.out]⟩
          case measure => simp [intOf]; omega
        · have hi : ¬ (x : Int) = (y : Int) := by omega
          have HX := Lib.hid (HN.out hxy)
          go_wp2_with fail
          go_quiet (fail)
          go_wp2_with fail
          go_ret
          exact ⟨ret_bool (decide_eq_false HX.out).symm, q + nq, by rw [← hwq]; show World.drewN _ _ = _; simp [World.drewN, Nat.add_assoc]⟩
      · have hall : L = M := by
          have h := HLM.out
          rwa [List.take_of_length_le (by have := HL.out; omega), List.take_of_length_le (by have := HM.out; omega)] at h
        have HAL := Lib.hid hall
        clear hall
        go_wp2_with fail
        go_ret
        exact ⟨ret_bool (decide_eq_true HAL.out).symm, q, rfl⟩
  · have hi : ¬ (n : Int) = (m : Int) := by omega
    have hne : L ≠ M := fun e => hnm (by rw [← HL.out, ← HM.out, e])
    have HNE := Lib.hid hne
    clear hne
    go_enter Tryd.func98, Tryd.ntmps98
    go_wp2_with fail
    go_ret
    exact ⟨ret_bool (decide_eq_false HNE.out).symm, 0, rfl⟩
set_option maxRecDepth 100000 in
set_option maxHeartbeats 3200000 in
theorem eqT_any (A B : Option Addr) (n c m d : Nat) (L M : List Nat) (w : World) (hA : SlL w 1 A n c (L.map nV)) (hB : SlL w 1 B m d (M.map nV)) (hn : n ≤ 9223372036854775806) (hm : m ≤ 9223372036854775806) :
    Calls Tryd.prog 99 #[.slice A n c, .slice B m d] w fun e w' => e = .returned (.bool (decide (L = M))) ∧ ∃ q, w' = w.drewN q := by
  have hl : L.length = n := by have := hA.len; simpa using this
  have ml : M.length = m := by have := hB.len; simpa using this
  have HA := Lib.hid hA
  have HB := Lib.hid hB
  have HL := Lib.hid hl
  have HM := Lib.hid ml
  clear hl ml hA hB
  by_cases hnm : n = m
  · subst hnm
    go_enter Tryd.func99, Tryd.ntmps99
    go_wp2_with fail
    go_loopw [13] (fun i wr => ∃ k : Nat, k ≤ n ∧ i = .int .i64 (k : Int) ∧ (∃ q, wr = w.drewN q) ∧ L.take k = M.take k) (fun i _ => n + 1 - (intOf i).toNat)
    case atStart => exact ⟨0, Nat.zero_le _, rfl, ⟨0, rfl⟩, rfl⟩
    case round =>
      obtain ⟨k, hk, rfl, ⟨q, rfl⟩, hlm⟩ := hrel
      have HLM := Lib.hid hlm
      clear hlm
      by_cases hlt : k < n
      · obtain ⟨b, o, rfl, hc⟩ := HA.out.at (by omega)
        obtain ⟨b2, o2, rfl, hc2⟩ := HB.out.at (by omega)
        have hkL : k < L.length := by have := HL.out; omega
        have hkM : k < M.length := by have := HM.out; omega
        have d1 : w.cell? ⟨b, o + k, none⟩ = some (.int .u8 ((L[k] : Nat) : Int)) := hc k _ (by simp [List.getElem?_eq_getElem hkL, nV])
        have d2 : w.cell? ⟨b2, o2 + k, none⟩ = some (.int .u8 ((M[k] : Nat) : Int)) := hc2 k _ (by simp [List.getElem?_eq_getElem hkM, nV])
        have e1 : (w.drewN q).cell? ⟨b, o + k, none⟩ = some (.int .u8 ((L[k] : Nat) : Int)) := d1
        have e2 : (w.drewN q).cell? ⟨b2, o2 + k, none⟩ = some (.int .u8 ((M[k] : Nat) : Int)) := d2
        have hlti : (k : Int) < (n : Int) := by omega
        have HT := Lib.hid (show L.take (k + 1) = L.take k ++ [L[k]] ∧ M.take (k + 1) = M.take k ++ [M[k]] from ⟨by rw [List.take_add_one, List.getElem?_eq_getElem hkL]; rfl, by rw [List.take_add_one, List.getElem?_eq_getElem hkM]; rfl⟩)
        have HN := Lib.hid (show L[k] ≠ M[k] → L ≠ M from fun h e => h (by subst e; rfl))
        clear d1 d2 hc hc2
        generalize L[k] = x at *
        generalize M[k] = y at *
        clear hkL hkM
        generalize hwq : w.drewN q = wq at *
        by_cases hxy : x = y
        · have HXY := Lib.hid hxy
          subst hxy
          go_wp2_with fail
          go_quiet (fail)
          go_wp2_with fail
          go_roundw
          case rel => exact ⟨k + 1, by omega, by go_num, ⟨q + nq, by rw [← hwq]; show World.drewN _ _ = _; simp [World.drewN, Nat.add_assoc]⟩, by rw [HT.out.1, HT.out.2, HLM.out]⟩
          case measure => simp [intOf]; omega
        · have hi : ¬ (x : Int) = (y : Int) := by omega
          have HX := Lib.hid (HN.out hxy)
          go_wp2_with fail
          go_quiet (fail)
          go_wp2_with fail
          go_ret
          exact ⟨ret_bool (decide_eq_false HX.out).symm, q + nq, by rw [← hwq]; show World.drewN _ _ = _; simp [World.drewN, Nat.add_assoc]⟩
      · have hall : L = M := by
          have h := HLM.out
          rwa [List.take_of_length_le (by have := HL.out; omega), List.take_of_length_le (by have := HM.out; omega)] at h
        have HAL := Lib.hid hall
        clear hall
        go_wp2_with fail
        go_ret
        exact ⟨ret_bool (decide_eq_true HAL.out).symm, q, rfl⟩
  · have hi : ¬ (n : Int) = (m : Int) := by omega
    have hne : L ≠ M := fun e => hnm (by rw [← HL.out, ← HM.out, e])
    have HNE := Lib.hid hne
    clear hne
    go_enter Tryd.func99, Tryd.ntmps99
    go_wp2_with fail
    go_ret
    exact ⟨ret_bool (decide_eq_false HNE.out).symm, 0, rfl⟩
end Go.Proofs.YtfmblalbcodpmaaDoor
