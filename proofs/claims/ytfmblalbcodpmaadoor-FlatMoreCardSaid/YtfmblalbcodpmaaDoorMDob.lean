/- What the proofs lean on, part 2 of Do. No condition. -/
import Derived.Test.YtfmblalbcodpmaaDoorMDoa
namespace Go.Proofs.YtfmblalbcodpmaaDoor
open Go.RowKit
theorem Kept.iterAt {S : Nat → Prop} {a w : World} (h : Kept S a w) {k : Nat} (hk : S k ∨ a.heap.size ≤ k) (s : ByteArray) (pos : Nat) : Kept S a (w.iterAt k s pos) :=
  ⟨h.os, h.tape, h.output, by rw [Lib.iterAt_size]; exact h.size, fun i hi hn => (Lib.iterAt_other w k i s pos (by
    rintro rfl
    rcases hk with hk | hk
    · exact hn hk
    · omega)).trans (h.block i hi hn)⟩
theorem bits_take_lt {l : List UInt8} (hl : l.length ≤ 5) (hd : ∀ j, j < l.length → (l.getD j 48).toNat ≤ 57) (p : Nat) : bitsP (l.take p) < 100000 := by
  refine bitsP_lt _ (by rw [List.length_take]; omega) fun b hb => ?_
  obtain ⟨j, hj, e⟩ := List.mem_iff_getElem.1 (List.mem_of_mem_take hb)
  have := hd j hj
  rw [List.getD_eq_getElem?_getD, List.getElem?_eq_getElem hj] at this
  simp only [Option.getD_some] at this
  rw [e] at this
  exact this
set_option maxRecDepth 100000 in
set_option maxHeartbeats 6400000 in
theorem find_any (gs : List Grp) (b n : Nat) (w : World) (hb : Blk w b 187 (gcells gs)) (hok : ∀ g ∈ gs, GOk g) (hlen : gs.length ≤ 100) (hn : n < 65536) (hsp : SpTab w) :
    Calls Tryd.prog 102 #[.slice (some ⟨b, 0, none⟩) gs.length gs.length, .int .i64 (n : Int)] w fun e w' => e = .returned (rowRet (findP gs n)) ∧ Kept S0 w w' := by
  have HB := Lib.hid hb
  have HOK := Lib.hid hok
  have HSP := Lib.hid hsp
  have hrz := Blk.new w 155 #[.string { data := #[] }, .string { data := #[] }, .int .u8 0, .int .i64 0, .bool false]
  have HR := Lib.hid hrz
  have HK := Lib.hid ((Kept.refl S0 w).alloc (.cells #[.string { data := #[] }, .string { data := #[] }, .int .u8 0, .int .i64 0, .bool false] 155))
  clear hb hok hsp hrz
  go_enter Tryd.func102, Tryd.ntmps102
  go_wp2_with fail
  generalize (w.alloc (.cells #[.string { data := #[] }, .string { data := #[] }, .int .u8 0, .int .i64 0, .bool false] 155)) = w1 at *
  go_loopw [14] (fun i wr => ∃ k : Nat, k ≤ gs.length ∧ i = .int .i64 (k : Int) ∧ Kept S0 w wr ∧ Blk wr w.heap.size 155 #[.string { data := #[] }, .string { data := #[] }, .int .u8 0, .int .i64 0, .bool false] ∧ findP (gs.drop k) n = findP gs n) (fun i _ => gs.length + 1 - (intOf i).toNat)
  case atStart => exact ⟨0, Nat.zero_le _, rfl, HK.out, HR.out, rfl⟩
  case round =>
    obtain ⟨k, hk, rfl, hkr, hrr, hf⟩ := hrel
    have HKR := Lib.hid hkr
    have HRR := Lib.hid hrr
    have HF := Lib.hid hf
    clear hkr hrr hf HK HR
    by_cases hlt : k < gs.length
    · obtain ⟨g, hg⟩ : ∃ g, gs[k]? = some g := ⟨_, List.getElem?_eq_getElem hlt⟩
      have HG := Lib.hid hg
      have hgo := HOK.out g (List.mem_of_getElem? hg)
      have hb1 := HKR.out.blk HB.out (fun x => x)
      have c0 := (hb1.cell (k * 7 + 0)).trans (gcells_get hg 0 (by omega))
      have c1 := (hb1.cell (k * 7 + 1)).trans (gcells_get hg 1 (by omega))
      have c2 := (hb1.cell (k * 7 + 2)).trans (gcells_get hg 2 (by omega))
      have c3 := (hb1.cell (k * 7 + 3)).trans (gcells_get hg 3 (by omega))
      have c4 := (hb1.cell (k * 7 + 4)).trans (gcells_get hg 4 (by omega))
      have c5 := (hb1.cell (k * 7 + 5)).trans (gcells_get hg 5 (by omega))
      have c6 := (hb1.cell (k * 7 + 6)).trans (gcells_get hg 6 (by omega))
      have HGO := Lib.hid hgo
      clear hg hb1 hgo
      obtain ⟨first, ahead, names, types, imm, bits, plain⟩ := g
      replace c0 : wr.cell? ⟨b, k * 7, none⟩ = some (.int .i64 (first : Int)) := c0
      replace c1 : wr.cell? ⟨b, k * 7 + 1, none⟩ = some (.string ahead) := c1
      replace c2 : wr.cell? ⟨b, k * 7 + 2, none⟩ = some (.string names) := c2
      replace c3 : wr.cell? ⟨b, k * 7 + 3, none⟩ = some (.string types) := c3
      replace c4 : wr.cell? ⟨b, k * 7 + 4, none⟩ = some (.int .u8 (imm : Int)) := c4
      replace c5 : wr.cell? ⟨b, k * 7 + 5, none⟩ = some (.string bits) := c5
      replace c6 : wr.cell? ⟨b, k * 7 + 6, none⟩ = some (.bool plain) := c6
      go_wp2_with fail
      have hx := Blk.new wr 187 #[.int .i64 (first : Int), .string ahead, .string names, .string types, .int .u8 (imm : Int), .string bits, .bool plain]
      have HX := Lib.hid hx
      have hk2 : Kept S0 wr (wr.alloc (.cells #[.int .i64 (first : Int), .string ahead, .string names, .string types, .int .u8 (imm : Int), .string bits, .bool plain] 187)) := (Kept.refl S0 wr).alloc _
      have HK2 := Lib.hid hk2
      have HSZ := Lib.hid (show (wr.alloc (.cells #[.int .i64 (first : Int), .string ahead, .string names, .string types, .int .u8 (imm : Int), .string bits, .bool plain] 187)).heap.size = wr.heap.size + 1 by simp)
      clear hx hk2
      clear c0 c1 c2 c3 c4 c5 c6
      generalize (wr.alloc (.cells #[.int .i64 (first : Int), .string ahead, .string names, .string types, .int .u8 (imm : Int), .string bits, .bool plain] 187)) = w2 at *
      have HBX := Lib.hid (show w.heap.size < wr.heap.size from HRR.out.lt)
      generalize hbx : wr.heap.size = bx at *
      clear hbx
      have x0 : w2.cell? ⟨bx, 0, none⟩ = some (.int .i64 (first : Int)) := HX.out.cell 0
      have x2 : w2.cell? ⟨bx, 2, none⟩ = some (.string names) := HX.out.cell 2
      have hfirst : first < 65536 := HGO.out.first
      have hlt' : (k : Int) < (gs.length : Int) := by omega
      by_cases hA : n < first
      · have hAi : (n : Int) < (first : Int) := by omega
        have HA := Lib.hid hA
        clear hA
        go_wp2_with fail
        go_quiet (fail)
        go_wp2_with fail
        go_roundw
        case rel => exact ⟨k + 1, by omega, by go_num, ((HKR.out.then0 HK2.out).drewN _), (HK2.out.blk HRR.out (fun x => x)).drewN _, (findP_skip HG.out (.inl HA.out)).symm.trans HF.out⟩
        case measure => simp [intOf]; omega
      · have hAi : ¬ (n : Int) < (first : Int) := by omega
        have uz : IntKind.i64.wrap ((n : Int) - (first : Int)) = (n : Int) - (first : Int) := IntWalk.i64_in _ (by omega)
        have hcd := Lib.countB_le ⟨#[sp]⟩ (Nat.le_refl 1) names.size names (Nat.le_refl _)
        have hns : names.size < 100000 := HGO.out.names
        have HCO := Lib.hid (count_one names sp)
        by_cases hB : Lib.countB names ⟨#[sp]⟩ < n - first
        · have HSK := Lib.hid ((findP_skip HG.out (.inr hB)).symm.trans HF.out)
          generalize hcn : Lib.countB names ⟨#[sp]⟩ = cn at *
          have hBi : (cn : Int) < (n : Int) - (first : Int) := by omega
          clear hB hcn
          go_wp2_with fail
          go_quiet ((go_at_call 113; exact Calls.quiet_of_same (HCO.out _)))
          go_wp2_with fail
          go_roundw
          case rel => exact ⟨k + 1, by omega, by go_num, ((HKR.out.then0 HK2.out).drewN _), (HK2.out.blk HRR.out (fun x => x)).drewN _, HSK.out⟩
          case measure => simp [intOf]; omega
        · have HH := Lib.hid (HF.out.symm.trans (findP_hit HG.out (fun e => e.elim hA hB)))
          have hpcs : ((piecesP names sp).getD (n - first) ByteArray.empty).size < 100000 := HGO.out.pieces (n - first) (by show _ ≤ Lib.countB names ⟨#[sp]⟩; omega)
          have hahs : ahead.size < 100000 := HGO.out.ahead
          have hdg := HGO.out.digits (n - first) (by show _ ≤ Lib.countB names ⟨#[sp]⟩; omega)
          have hpl := pieces_len names sp
          have HPL := Lib.hid (show n - first < (piecesP names sp).length by omega)
          generalize hcn : Lib.countB names ⟨#[sp]⟩ = cn at *
          obtain ⟨a, ha⟩ : ∃ a, n - first = a := ⟨_, rfl⟩
          rw [ha] at HH HPL hdg hpcs
          have uza : IntKind.i64.wrap ((n : Int) - (first : Int)) = (a : Int) := by rw [uz]; omega
          have hBi : ¬ (cn : Int) < (a : Int) := by omega
          have han : a < 65536 := by omega
          have HA := Lib.hid (And.intro hA (And.intro hB ha))
          have HD := Lib.hid hdg
          have hbs : bits.size < 100000 := HGO.out.bits.1
          have hba : Ascii bits := HGO.out.bits.2
          have hBn : ¬ cn < a := by omega
          clear uz hcn hB ha hcd hpl hdg
          go_wp2_with fail
          go_quiet ((go_at_call 113; exact Calls.quiet_of_same (HCO.out _)))
          have HX3 := Lib.hid (HX.out.drewN nq)
          have HK3 := Lib.hid ((HKR.out.then0 HK2.out).drewN nq)
          have HR3 := Lib.hid ((HK2.out.blk HRR.out (fun x => x)).drewN nq)
          clear x0 x2 HX HK2 HRR HKR
          generalize w2.drewN nq = w3 at *
          have x0 : w3.cell? ⟨bx, 0, none⟩ = some (.int .i64 (first : Int)) := HX3.out.cell 0
          have x5 : w3.cell? ⟨bx, 5, none⟩ = some (.string bits) := HX3.out.cell 5
          have HW := Lib.hid (word_any bits a w3 (by omega) (by omega) hba (HSP.out.kept0 HK3.out))
          go_wp2_with fail
          refine HW.out.mono ?_
          rintro e w4 ⟨rfl, hk4⟩
          have HBT := Lib.hid (show (Grp.at_ ⟨first, ahead, names, types, imm, bits, plain⟩ a).bits = bitsP (wordP bits a).data.toList from rfl)
          obtain ⟨hs5, hdig⟩ : (wordP bits a).size ≤ 5 ∧ ∀ j, j < (wordP bits a).size → 48 ≤ ((wordP bits a).data.toList.getD j 48).toNat ∧ ((wordP bits a).data.toList.getD j 48).toNat ≤ 57 := HD.out
          clear HD HW HCO
          generalize wordP bits a = s at *
          have hLn : s.data.toList.length = s.size := (Lib.size_eq s).symm
          have HI := Lib.hid (World.iter_heap w4 s 0)
          have hki : Kept S0 w4 (w4.iter s 0) := (Kept.refl S0 w4).alloc _
          have HX4 := Lib.hid ((hk4.then0 hki).blk HX3.out (fun x => x))
          have HR4 := Lib.hid ((hk4.then0 hki).blk HR3.out (fun x => x))
          have HK4 := Lib.hid ((HK3.out.then0 hk4).then0 hki)
          have HIB := Lib.hid (show bx < w4.heap.size from (hk4.blk HX3.out (fun x => x)).lt)
          clear hki hk4 x0 x5 HX3 HR3 HK3
          have HLT : ∀ p, bitsP (s.data.toList.take p) < 100000 := fun p => bits_take_lt (by omega) (fun j hj => (hdig j (by omega)).2) p
          have HLTh := Lib.hid HLT
          have HDG := Lib.hid hdig
          have HSIZ := Lib.hid hLn
          clear HLT hdig hLn
          go_wp2_with fail
          generalize w4.iter s 0 = w5 at *
          generalize hib : w4.heap.size = ib at *
          clear hib
          go_loopw [9] (fun i wi => ∃ pos : Nat, pos ≤ s.size ∧ i = .int .i64 (bitsP (s.data.toList.take pos) : Nat) ∧ wi.heap[ib]? = some (.stringIter s pos) ∧ Kept (S1 ib) w5 wi) (fun _ wi => s.size - wi.iterPos ib)
          case atStart => exact ⟨0, Nat.zero_le _, rfl, HI.out, Kept.refl _ _⟩
          case round =>
            obtain ⟨pos, hps, rfl, hit, hki⟩ := hrel
            have HKI := Lib.hid hki
            clear hki
            by_cases hp : pos < s.size
            · have hd := HDG.out pos hp
              have e5 : s.data.toList.getD pos 48 = s[pos]'hp := by rw [List.getD_eq_getElem?_getD, List.getElem?_eq_getElem (by have := HSIZ.out; omega)]; rfl
              rw [e5] at hd
              have hnext : ∀ ty, (Instr.next (.pointer (some ⟨ib, 0, none⟩)) true ty).run Tryd.prog wr = _ := fun ty => Lib.run_next_ascii_at wr ib s pos ty hit hp (by omega)
              have hk1 := Lib.iterAt_heap wr ib s pos (pos + 1) hit
              have hmu : wr.iterPos ib = pos := by simp [World.iterPos, hit]
              have HKI1 := Lib.hid (HKI.out.iterAt (.inl rfl : S1 ib ib ∨ _) s (pos + 1))
              have htk := bitsP_take s.data.toList pos (by have := HSIZ.out; omega)
              have e6 : s.data.toList[pos]'(by have := HSIZ.out; omega) = s[pos]'hp := rfl
              rw [e6] at htk
              have HTK := Lib.hid htk
              have hl1 := HLTh.out pos
              generalize wr.iterAt ib s (pos + 1) = wi1 at *
              generalize bitsP (s.data.toList.take pos) = acc at *
              generalize (s[pos]'hp).toNat = c at *
              clear htk e5 e6 hit
              have HK1 := Lib.hid hk1
              have HMU := Lib.hid hmu
              clear hk1 hmu
              obtain ⟨d, hd'⟩ : ∃ d, c = 48 + d := ⟨c - 48, by omega⟩
              have u1 : IntKind.i32.wrap ((c : Int) - 48) = (d : Int) := by rw [hd']; rw [IntWalk.i32_in _ (by omega)]; omega
              have u2 : IntKind.i64.wrap (10 * (acc : Int)) = 10 * (acc : Int) := IntWalk.i64_in _ (by omega)
              have u3 : IntKind.i64.wrap (d : Int) = (d : Int) := IntWalk.i64_in _ (by omega)
              have u4 : IntKind.i64.wrap (10 * (acc : Int) + (d : Int)) = ((10 * acc + d : Nat) : Int) := by rw [IntWalk.i64_in _ (by omega)]; omega
              have HDN := Lib.hid hd'
              clear hd'
              go_wp2_with fail
              go_roundw
              case rel => exact ⟨pos + 1, by omega, by rw [HTK.out, show c - 48 = d by have := HDN.out; omega]; first | rfl | go_num, HK1.out, HKI1.out⟩
              case measure =>
                have hmu2 : wi1.iterPos ib = pos + 1 := by simp [World.iterPos, HK1.out]
                rw [HMU.out, hmu2]
                omega
            · have hnext : ∀ ty, (Instr.next (.pointer (some ⟨ib, 0, none⟩)) true ty).run Tryd.prog wr = _ := fun ty => Lib.run_next_end_at wr ib s pos ty hit hp
              have hall : s.data.toList.take pos = s.data.toList := List.take_of_length_le (by have := HSIZ.out; omega)
              rw [hall]
              go_wp2_with fail
              have hXr := (HKI.out.blk HX4.out (fun e => by have e' : bx = ib := e; have := HIB.out; omega)).drew
              have HRr := Lib.hid ((HKI.out.blk HR4.out (fun e => by have e' : w.heap.size = ib := e; have := HIB.out; have := HBX.out; omega)).drew)
              have HKr := Lib.hid ((HK4.out.trans_ HKI.out (fun i e => .inr (by have e' : i = ib := e; have := HIB.out; have := HBX.out; omega))).drew)
              refine wp_region_R (fun w' => w'.cell? ⟨bx, 1, none⟩ = some (.string ahead) ∧ w'.cell? ⟨bx, 2, none⟩ = some (.string names) ∧ w'.cell? ⟨bx, 3, none⟩ = some (.string types) ∧ w'.cell? ⟨bx, 4, none⟩ = some (.int .u8 (imm : Int)) ∧ w'.cell? ⟨bx, 6, none⟩ = some (.bool plain)) [19] (by kernel_rfl) ?_
              have hS : wr.drew.cell? ⟨bx, 1, none⟩ = some (.string ahead) ∧ wr.drew.cell? ⟨bx, 2, none⟩ = some (.string names) ∧ wr.drew.cell? ⟨bx, 3, none⟩ = some (.string types) ∧ wr.drew.cell? ⟨bx, 4, none⟩ = some (.int .u8 (imm : Int)) ∧ wr.drew.cell? ⟨bx, 6, none⟩ = some (.bool plain) := ⟨hXr.cell 1, hXr.cell 2, hXr.cell 3, hXr.cell 4, hXr.cell 6⟩
              have HXr := Lib.hid hXr
              clear hXr HKI HX4 HR4 HK4
              generalize wr.drew = w6 at *
              have hal : (a : Int) < ((piecesP names sp).length : Int) := by have := HPL.out; omega
              have ha0 : (0 : Int) ≤ (a : Int) := by omega
              have htz : types.size < 100000 := HGO.out.types.1
              have hta : Ascii types := HGO.out.types.2
              refine wpAnyR_take 0 (v := ?_) rfl (by kernel_rfl) (by kernel_rfl) (by kernel_rfl) (by kernel_rfl) (fun _ _ _ h => h) hS ⟨by rfl, ?_⟩ ?_
              rotate_left; (intro w hSw; (try dsimp only at hSw); first | (go_simp; done) | (go_simp; with_reducible rfl))
              simp only [List.getElem_toArray, List.getElem_cons_zero, Act.put, List.setIfInBounds_toArray, List.set_cons_zero, List.set_cons_succ]
              refine wpAnyR_take 1 (v := ?_) rfl (by kernel_rfl) (by kernel_rfl) (by kernel_rfl) (by kernel_rfl) (fun _ _ _ h => h) hS ⟨by rfl, ?_⟩ ?_
              rotate_left; (intro w hSw; (try dsimp only at hSw); first | (go_simp; done) | (go_simp; with_reducible rfl))
              simp only [List.getElem_toArray, List.getElem_cons_zero, List.getElem_cons_succ, Act.put, List.setIfInBounds_toArray, List.set_cons_zero, List.set_cons_succ]
              refine wpAnyR_take 2 (v := ?_) rfl (by kernel_rfl) (by kernel_rfl) (by kernel_rfl) (by kernel_rfl) (fun _ _ _ h => h) hS ⟨by rfl, ?_⟩ ?_
              rotate_left; (intro w hSw; (try dsimp only at hSw); first | (go_simp; done) | (go_simp; with_reducible rfl))
              simp only [List.getElem_toArray, List.getElem_cons_zero, List.getElem_cons_succ, Act.put, List.setIfInBounds_toArray, List.set_cons_zero, List.set_cons_succ]
              refine wpAnyR_take 3 (v := ?_) rfl (by kernel_rfl) (by kernel_rfl) (by kernel_rfl) (by kernel_rfl) (fun _ _ _ h => h) hS ⟨by rfl, ?_⟩ ?_
              rotate_left; (intro w hSw; (try dsimp only at hSw); first | (go_simp; done) | (go_simp; with_reducible rfl))
              simp only [List.getElem_toArray, List.getElem_cons_zero, List.getElem_cons_succ, Act.put, List.setIfInBounds_toArray, List.set_cons_zero, List.set_cons_succ]
              refine wpAnyR_take 5 (v := ?_) rfl (by kernel_rfl) (by kernel_rfl) (by kernel_rfl) (by kernel_rfl) (fun _ _ _ h => h) hS ⟨by rfl, ?_⟩ ?_
              rotate_left; (intro w hSw; (try dsimp only at hSw); first | (go_simp; done) | (go_simp; with_reducible rfl))
              simp only [List.getElem_toArray, List.getElem_cons_zero, List.getElem_cons_succ, Act.put, List.setIfInBounds_toArray, List.set_cons_zero, List.set_cons_succ]
              refine wpAnyR_take 9 (v := ?_) rfl (by kernel_rfl) (by kernel_rfl) (by kernel_rfl) (by kernel_rfl) (fun _ _ _ h => h) hS ⟨by rfl, ?_⟩ ?_
              rotate_left; (intro w hSw; (try dsimp only at hSw); first | (go_simp; done) | (go_simp; with_reducible rfl))
              simp only [List.getElem_toArray, List.getElem_cons_zero, List.getElem_cons_succ, Act.put, List.setIfInBounds_toArray, List.set_cons_zero, List.set_cons_succ]
              refine wpAnyR_take 10 (v := ?_) rfl (by kernel_rfl) (by kernel_rfl) (by kernel_rfl) (by kernel_rfl) (fun _ _ _ h => h) hS ⟨by rfl, ?_⟩ ?_
              rotate_left; (intro w hSw; (try dsimp only at hSw); first | (go_simp; done) | (go_simp; with_reducible rfl))
              simp only [List.getElem_toArray, List.getElem_cons_zero, List.getElem_cons_succ, Act.put, List.setIfInBounds_toArray, List.set_cons_zero, List.set_cons_succ]
              refine wpAnyR_take 11 (v := ?_) rfl (by kernel_rfl) (by kernel_rfl) (by kernel_rfl) (by kernel_rfl) (fun _ _ _ h => h) hS ⟨by rfl, ?_⟩ ?_
              rotate_left; (intro w hSw; (try dsimp only at hSw); first | (go_simp; done) | (go_simp; with_reducible rfl))
              simp only [List.getElem_toArray, List.getElem_cons_zero, List.getElem_cons_succ, Act.put, List.setIfInBounds_toArray, List.set_cons_zero, List.set_cons_succ]
              refine wpAnyR_take 13 (v := ?_) rfl (by kernel_rfl) (by kernel_rfl) (by kernel_rfl) (by kernel_rfl) (fun _ _ _ h => h) hS ⟨by rfl, ?_⟩ ?_
              rotate_left; (intro w hSw; (try dsimp only at hSw); first | (go_simp; done) | (go_simp; with_reducible rfl))
              simp only [List.getElem_toArray, List.getElem_cons_zero, List.getElem_cons_succ, Act.put, List.setIfInBounds_toArray, List.set_cons_zero, List.set_cons_succ]
              refine wpAnyR_take 14 (v := ?_) rfl (by kernel_rfl) (by kernel_rfl) (by kernel_rfl) (by kernel_rfl) (fun _ _ _ h => h) hS ⟨by rfl, ?_⟩ ?_
              rotate_left; (intro w hSw; (try dsimp only at hSw); first | (go_simp; done) | (go_simp; with_reducible rfl))
              simp only [List.getElem_toArray, List.getElem_cons_zero, List.getElem_cons_succ, Act.put, List.setIfInBounds_toArray, List.set_cons_zero, List.set_cons_succ]
              refine wpAnyR_take 15 (v := ?_) rfl (by kernel_rfl) (by kernel_rfl) (by kernel_rfl) (by kernel_rfl) (fun _ _ _ h => h) hS ⟨by rfl, ?_⟩ ?_
              rotate_left; (intro w hSw; (try dsimp only at hSw); first | (go_simp; done) | (go_simp; with_reducible rfl))
              simp only [List.getElem_toArray, List.getElem_cons_zero, List.getElem_cons_succ, Act.put, List.setIfInBounds_toArray, List.set_cons_zero, List.set_cons_succ]
              refine wpAnyR_take 16 (v := ?_) rfl (by kernel_rfl) (by kernel_rfl) (by kernel_rfl) (by kernel_rfl) (fun _ _ _ h => h) hS ⟨by rfl, ?_⟩ ?_
              rotate_left; (intro w hSw; (try dsimp only at hSw); first | (go_simp; done) | (go_simp; with_reducible rfl))
              simp only [List.getElem_toArray, List.getElem_cons_zero, List.getElem_cons_succ, Act.put, List.setIfInBounds_toArray, List.set_cons_zero, List.set_cons_succ]
              refine wpAnyR_take 17 (v := ?_) rfl (by kernel_rfl) (by kernel_rfl) (by kernel_rfl) (by kernel_rfl) (fun _ _ _ h => h) hS ⟨by rfl, ?_⟩ ?_
              rotate_left; (intro w hSw; (try dsimp only at hSw); first | (go_simp; done) | (go_simp; with_reducible rfl))
              simp only [List.getElem_toArray, List.getElem_cons_zero, List.getElem_cons_succ, Act.put, List.setIfInBounds_toArray, List.set_cons_zero, List.set_cons_succ]
              refine wpAnyR_one 4 rfl (by kernel_rfl) (fun K hK => ?_)
              go_simp
              go_at_call 114
              refine (split_one names sp w6 (by omega)).mono ?_
              rintro e w7 ⟨rfl, rfl⟩
              have hpc : (w6.alloc (.cells ((piecesP names sp).map Value.string).toArray 9)).cell? ⟨w6.heap.size, a, none⟩ = some (.string ((piecesP names sp).getD a ByteArray.empty)) := by
                have hb := (Blk.new w6 9 ((piecesP names sp).map Value.string).toArray).cell a
                rw [hb]
                simp [List.getD_eq_getElem?_getD, List.getElem?_eq_getElem HPL.out]
              have HPE := Lib.hid (show ∃ pc, (piecesP names sp).getD a ByteArray.empty = pc from ⟨_, rfl⟩)
              have hka : Kept S0 w6 (w6.alloc (.cells ((piecesP names sp).map Value.string).toArray 9)) := (Kept.refl S0 w6).alloc _
              have hX7 := hka.blk HXr.out (fun x => x)
              have HR7 := Lib.hid (hka.blk HRr.out (fun x => x))
              have HK7 := Lib.hid (HKr.out.then0 hka)
              have hsb : w6.heap.size < (w6.alloc (.cells ((piecesP names sp).map Value.string).toArray 9)).heap.size := by simp
              generalize w6.alloc (.cells ((piecesP names sp).map Value.string).toArray 9) = w7 at *
              have hS7 : w7.cell? ⟨bx, 1, none⟩ = some (.string ahead) ∧ w7.cell? ⟨bx, 2, none⟩ = some (.string names) ∧ w7.cell? ⟨bx, 3, none⟩ = some (.string types) ∧ w7.cell? ⟨bx, 4, none⟩ = some (.int .u8 (imm : Int)) ∧ w7.cell? ⟨bx, 6, none⟩ = some (.bool plain) := ⟨hX7.cell 1, hX7.cell 2, hX7.cell 3, hX7.cell 4, hX7.cell 6⟩
              refine hK.out _ _ (fun _ => hS7) ?_
              clear hK K hS
              obtain ⟨pc, hpe⟩ := HPE.out
              clear HPE
              rw [hpe] at hpc hpcs
              have HPE := Lib.hid hpe
              clear hpe
              have hcat : ¬ 9223372036854775807 < ahead.size + pc.size := by omega
              refine wpAnyR_sub (S' := fun w' => (w'.cell? ⟨bx, 1, none⟩ = some (.string ahead) ∧ w'.cell? ⟨bx, 2, none⟩ = some (.string names) ∧ w'.cell? ⟨bx, 3, none⟩ = some (.string types) ∧ w'.cell? ⟨bx, 4, none⟩ = some (.int .u8 (imm : Int)) ∧ w'.cell? ⟨bx, 6, none⟩ = some (.bool plain)) ∧ w'.cell? ⟨w6.heap.size, a, none⟩ = some (.string (pc))) (fun _ h => h.1) _ _ _ _ ?_
              have hS8 : (w7.cell? ⟨bx, 1, none⟩ = some (.string ahead) ∧ w7.cell? ⟨bx, 2, none⟩ = some (.string names) ∧ w7.cell? ⟨bx, 3, none⟩ = some (.string types) ∧ w7.cell? ⟨bx, 4, none⟩ = some (.int .u8 (imm : Int)) ∧ w7.cell? ⟨bx, 6, none⟩ = some (.bool plain)) ∧ w7.cell? ⟨w6.heap.size, a, none⟩ = some (.string (pc)) := ⟨hS7, hpc⟩
              clear hS7 hpc hka
              refine wpAnyR_take 6 (v := ?_) rfl (by kernel_rfl) (by kernel_rfl) (by kernel_rfl) (by kernel_rfl) (fun _ _ _ h => h) hS8 ⟨by rfl, ?_⟩ ?_
              rotate_left; (intro w hSw; (try dsimp only at hSw); first | (go_simp; done) | (go_simp; with_reducible rfl))
              simp only [List.getElem_toArray, List.getElem_cons_zero, List.getElem_cons_succ, Act.put, List.setIfInBounds_toArray, List.set_cons_zero, List.set_cons_succ]
              refine wpAnyR_take 7 (v := ?_) rfl (by kernel_rfl) (by kernel_rfl) (by kernel_rfl) (by kernel_rfl) (fun _ _ _ h => h) hS8 ⟨by rfl, ?_⟩ ?_
              rotate_left; (intro w hSw; (try dsimp only at hSw); first | (go_simp; done) | (go_simp; with_reducible rfl))
              simp only [List.getElem_toArray, List.getElem_cons_zero, List.getElem_cons_succ, Act.put, List.setIfInBounds_toArray, List.set_cons_zero, List.set_cons_succ]
              refine wpAnyR_take 8 (v := ?_) rfl (by kernel_rfl) (by kernel_rfl) (by kernel_rfl) (by kernel_rfl) (fun _ _ _ h => h) hS8 ⟨by rfl, ?_⟩ ?_
              rotate_left; (intro w hSw; (try dsimp only at hSw); first | (go_simp; done) | (go_simp; with_reducible rfl))
              simp only [List.getElem_toArray, List.getElem_cons_zero, List.getElem_cons_succ, Act.put, List.setIfInBounds_toArray, List.set_cons_zero, List.set_cons_succ]
              refine wpAnyR_one 12 rfl (by kernel_rfl) (fun K hK => ?_)
              go_simp
              go_at_call 112
              refine (word_any types a w7 (by omega) (by omega) hta (HSP.out.kept0 HK7.out)).mono ?_
              rintro e w8 ⟨rfl, hk8⟩
              have hX8 := hk8.blk hX7 (fun x => x)
              have HR8 := Lib.hid (hk8.blk HR7.out (fun x => x))
              have HK8 := Lib.hid (HK7.out.then0 hk8)
              have hpc8 := (hk8.cell (p := ⟨w6.heap.size, a, none⟩) hsb (fun x => x)).trans hS8.2
              refine hK.out _ _ (fun _ => ⟨⟨hX8.cell 1, hX8.cell 2, hX8.cell 3, hX8.cell 4, hX8.cell 6⟩, hpc8⟩) ?_
              clear hK K hS8 hX7 HR7 HK7
              have hS9 : (w8.cell? ⟨bx, 1, none⟩ = some (.string ahead) ∧ w8.cell? ⟨bx, 2, none⟩ = some (.string names) ∧ w8.cell? ⟨bx, 3, none⟩ = some (.string types) ∧ w8.cell? ⟨bx, 4, none⟩ = some (.int .u8 (imm : Int)) ∧ w8.cell? ⟨bx, 6, none⟩ = some (.bool plain)) ∧ w8.cell? ⟨w6.heap.size, a, none⟩ = some (.string (pc)) := ⟨⟨hX8.cell 1, hX8.cell 2, hX8.cell 3, hX8.cell 4, hX8.cell 6⟩, hpc8⟩
              clear hpc8 hk8 hX8
              refine wpAnyR_take 18 (v := ?_) rfl (by kernel_rfl) (by kernel_rfl) (by kernel_rfl) (by kernel_rfl) (fun _ _ _ h => h) hS9 ⟨by rfl, ?_⟩ ?_
              rotate_left; (intro w hSw; (try dsimp only at hSw); first | (go_simp; done) | (go_simp; with_reducible rfl))
              simp only [List.getElem_toArray, List.getElem_cons_zero, List.getElem_cons_succ, Act.put, List.setIfInBounds_toArray, List.set_cons_zero, List.set_cons_succ]
              refine wpAnyR_one 19 rfl (by kernel_rfl) (fun K hK => ?_)
              have r0 := HR8.out.cell 0
              have r1 := HR8.out.cell 1
              have r2 := HR8.out.cell 2
              have r3 := HR8.out.cell 3
              have r4 := HR8.out.cell 4
              have q0 := HR8.out.frozen 0
              have q1 := HR8.out.frozen 1
              have q2 := HR8.out.frozen 2
              have q3 := HR8.out.frozen 3
              have q4 := HR8.out.frozen 4
              go_simp
              refine hK.out _ _ (fun h => absurd h (by decide)) ?_
              clear hK K
              refine wpAnyR_late 20 (v := ?_) rfl (by kernel_rfl) (by kernel_rfl) (by kernel_rfl) (by kernel_rfl) (fun _ _ _ h => h) (fun h => absurd h (by decide)) ⟨by rfl, ?_⟩ ?_
              rotate_left; (intro w; first | (go_simp; done) | (go_simp; with_reducible rfl))
              simp only [List.getElem_toArray, List.getElem_cons_zero, List.getElem_cons_succ, Act.put, List.setIfInBounds_toArray, List.set_cons_zero, List.set_cons_succ]
              refine wpAnyR_done (by kernel_rfl) ?_ _
              have hf : Blk (((((w8.setCell ⟨w.heap.size, 0, none⟩ (.string (ahead ++ pc))).setCell ⟨w.heap.size, 1, none⟩ (.string (wordP types a))).setCell ⟨w.heap.size, 2, none⟩ (.int .u8 (imm : Int))).setCell ⟨w.heap.size, 3, none⟩ (.int .i64 (bitsP s.data.toList : Nat))).setCell ⟨w.heap.size, 4, none⟩ (.bool plain)) w.heap.size 155 #[.string (ahead ++ pc), .string (wordP types a), .int .u8 (imm : Int), .int .i64 (bitsP s.data.toList : Nat), .bool plain] := ((((HR8.out.set_ 0 _).set_ 1 _).set_ 2 _).set_ 3 _).set_ 4 _
              have hkf : Kept S0 w (((((w8.setCell ⟨w.heap.size, 0, none⟩ (.string (ahead ++ pc))).setCell ⟨w.heap.size, 1, none⟩ (.string (wordP types a))).setCell ⟨w.heap.size, 2, none⟩ (.int .u8 (imm : Int))).setCell ⟨w.heap.size, 3, none⟩ (.int .i64 (bitsP s.data.toList : Nat))).setCell ⟨w.heap.size, 4, none⟩ (.bool plain)) := ((((HK8.out.setCell (p := ⟨w.heap.size, 0, none⟩) (.inr (Nat.le_refl _)) _).setCell (p := ⟨w.heap.size, 1, none⟩) (.inr (Nat.le_refl _)) _).setCell (p := ⟨w.heap.size, 2, none⟩) (.inr (Nat.le_refl _)) _).setCell (p := ⟨w.heap.size, 3, none⟩) (.inr (Nat.le_refl _)) _).setCell (p := ⟨w.heap.size, 4, none⟩) (.inr (Nat.le_refl _)) _
              have HF9 := Lib.hid hf
              have HK9 := Lib.hid hkf
              clear hf hkf r0 r1 r2 r3 r4 q0 q1 q2 q3 q4 hS9
              generalize (((((w8.setCell ⟨w.heap.size, 0, none⟩ (.string (ahead ++ pc))).setCell ⟨w.heap.size, 1, none⟩ (.string (wordP types a))).setCell ⟨w.heap.size, 2, none⟩ (.int .u8 (imm : Int))).setCell ⟨w.heap.size, 3, none⟩ (.int .i64 (bitsP s.data.toList : Nat))).setCell ⟨w.heap.size, 4, none⟩ (.bool plain)) = w9 at *
              have r0 := HF9.out.cell 0
              have r1 := HF9.out.cell 1
              have r2 := HF9.out.cell 2
              have r3 := HF9.out.cell 3
              have r4 := HF9.out.cell 4
              go_wp2_with fail
              exact bodyPost_ret (v := .tuple #[.agg #[.string (ahead ++ pc), .string (wordP types a), .int .u8 (imm : Int), .int .i64 (bitsP s.data.toList : Nat), .bool plain], .bool true]) (by simp [results, Tryd.results102, go_sem, r0, r1, r2, r3, r4]) rfl ⟨by rw [HH.out]; show _ = Ending.returned (.tuple #[.agg #[.string (ahead ++ (piecesP names sp).getD a ByteArray.empty), .string (wordP types a), .int .u8 (imm : Int), .int .i64 ((Grp.at_ ⟨first, ahead, names, types, imm, bits, plain⟩ a).bits : Int), .bool plain], .bool true]); rw [HBT.out, HPE.out], HK9.out⟩
    · have hf := HF.out
      have e : findP gs n = none := by
        rw [← hf, List.drop_eq_nil_of_le (by omega)]
        rfl
      have HE := Lib.hid e
      have r0 := HRR.out.cell 0
      have r1 := HRR.out.cell 1
      have r2 := HRR.out.cell 2
      have r3 := HRR.out.cell 3
      have r4 := HRR.out.cell 4
      have q0 := HRR.out.frozen 0
      have q1 := HRR.out.frozen 1
      have q2 := HRR.out.frozen 2
      have q3 := HRR.out.frozen 3
      have q4 := HRR.out.frozen 4
      clear hf e
      go_wp2_with fail
      exact bodyPost_ret (v := .tuple #[.agg #[.string { data := #[] }, .string { data := #[] }, .int .u8 0, .int .i64 0, .bool false], .bool false]) (by simp [results, Tryd.results102, go_sem, r0, r1, r2, r3, r4]) rfl ⟨by rw [HE.out]; rfl, ((((((HKR.out.setCell (p := ⟨w.heap.size, 0, none⟩) (.inr (Nat.le_refl _)) _).setCell (p := ⟨w.heap.size, 1, none⟩) (.inr (Nat.le_refl _)) _).setCell (p := ⟨w.heap.size, 2, none⟩) (.inr (Nat.le_refl _)) _).setCell (p := ⟨w.heap.size, 3, none⟩) (.inr (Nat.le_refl _)) _).setCell (p := ⟨w.heap.size, 4, none⟩) (.inr (Nat.le_refl _)) _))⟩
end Go.Proofs.YtfmblalbcodpmaaDoor
namespace Go.Proofs.YtfmblalbcodpmaaDoor
open Go.RowKit
def AnyV : Value → Prop := fun _ => True
/-- A list's cells, one behind the other. -/
def ofL (L : List Value) : Nat → Value := fun i => L.getD i undef
/-- An owned slice whose cells are a list. -/
structure OwnL (w : World) (base e size : Nat) (v : Value) (n : Nat) (L : List Value) : Prop where
  len : L.length = n * size
  own : Own w base e size AnyV v n (ofL L)
/-- A slice whose cells are a list, wherever it lies. -/
structure SlL (w : World) (size : Nat) (A : Option Addr) (n c : Nat) (L : List Value) : Prop where
  len : L.length = n * size
  sl : Sl w A (n * size) (ofL L)
  nil : A = none → n = 0 ∧ c = 0
  le : n ≤ c
  cm : c ≤ maxLen
theorem ofL_get {L : List Value} {i : Nat} {u : Value} (h : L[i]? = some u) : ofL L i = u := by simp [ofL, List.getD_eq_getElem?_getD, h]
theorem ofL_append {L M : List Value} {n : Nat} (h : L.length = n) (i : Nat) : ofL (L ++ M) i = after n (ofL L) (ofL M) i := by
  subst h
  unfold ofL after
  by_cases hi : i < L.length
  · rw [if_pos hi]; simp [List.getD_eq_getElem?_getD, List.getElem?_append_left hi]
  · rw [if_neg hi]; simp [List.getD_eq_getElem?_getD, List.getElem?_append_right (Nat.le_of_not_lt hi)]
section
variable {w w' : World} {base e size n : Nat} {v : Value} {L : List Value}
theorem OwnL.nil (w : World) (base e size : Nat) : OwnL w base e size (.slice none 0 0) 0 [] := ⟨by simp, Own.nil w base e size AnyV _⟩
theorem OwnL.mono {b : Nat} (h : OwnL w base e size v n L) (hb : b ≤ base) : OwnL w b e size v n L := ⟨h.len, h.own.mono hb⟩
theorem OwnL.kept {S : Nat → Prop} (h : OwnL w base e size v n L) (hk : Kept S w w') (hS : ∀ g, v.ownBlock = Option.some g → ¬ S g) : OwnL w' base e size v n L := ⟨h.len, h.own.kept hk hS⟩
theorem OwnL.kept0 (h : OwnL w base e size v n L) (hk : Kept S0 w w') : OwnL w' base e size v n L := h.kept hk (fun _ _ x => x)
theorem OwnL.out (h : OwnL w base e size v n L) : ∃ A c, v = .slice A n c ∧ SlL w size A n c L := by
  rcases h.own with ⟨rfl, rfl⟩ | ⟨g, cap, fr, rfl, h2, h3, h4, h5, h6, h7⟩
  · exact ⟨none, 0, rfl, h.len, fun h => absurd h (by omega), fun _ => ⟨rfl, rfl⟩, Nat.le_refl _, Nat.zero_le _⟩
  · exact ⟨_, cap, rfl, h.len, (Sl.of_row h5 (Nat.mul_le_mul_right _ h3)).congr h6, (fun e => by cases e), h3, h4⟩
theorem OwnL.lt (h : OwnL w base e size v n L) : ∀ g, v.ownBlock = Option.some g → base ≤ g ∧ g < w.heap.size := h.own.lt
theorem SlL.kept {S : Nat → Prop} {A : Option Addr} {c : Nat} (h : SlL w size A n c L) (hk : Kept S w w') (hS : ∀ b o, A = some ⟨b, o, none⟩ → ¬ S b) : SlL w' size A n c L :=
  ⟨h.len, fun hn => by
    obtain ⟨b, o, e, hc⟩ := h.sl hn
    exact ⟨b, o, e, fun i hi => (hk.cell (p := ⟨b, o + i, none⟩) (World.block_lt_of_cell? _ _ (hc i hi)) (hS b o e)).trans (hc i hi)⟩, h.nil, h.le, h.cm⟩
theorem SlL.kept0 {A : Option Addr} {c : Nat} (h : SlL w size A n c L) (hk : Kept S0 w w') : SlL w' size A n c L := h.kept hk (fun _ _ _ x => x)
theorem SlL.zero (w : World) (size : Nat) : SlL w size none 0 0 [] := ⟨by simp, fun h => absurd h (by omega), fun _ => ⟨rfl, rfl⟩, Nat.le_refl _, Nat.zero_le _⟩
/-- Where its cells lie. -/
theorem SlL.at {A : Option Addr} {c : Nat} (h : SlL w size A n c L) (hn : 0 < n * size) : ∃ b o, A = some ⟨b, o, none⟩ ∧ ∀ i u, L[i]? = some u → w.cell? ⟨b, o + i, none⟩ = some u := by
  obtain ⟨b, o, e, hc⟩ := h.sl hn
  exact ⟨b, o, e, fun i u hi => by rw [hc i (by rw [← h.len]; exact (List.getElem?_eq_some_iff.1 hi).1), ofL_get hi]⟩
theorem SlL.of_blk {t : Nat} {b n : Nat} {cs : Array Value} (h : Blk w b t cs) (hl : cs.size = n * size) (hn : n ≤ maxLen) : SlL w size (some ⟨b, 0, none⟩) n n cs.toList :=
  ⟨by simpa using hl, fun _ => ⟨b, 0, rfl, fun i hi => by
    rw [Nat.zero_add, h.cell i]
    have : i < cs.size := by omega
    simp [ofL, List.getD_eq_getElem?_getD, this]⟩, (fun e => by cases e), Nat.le_refl _, hn⟩
end
/-- What append onto an owned slice leaves. -/
structure Pushed (w w' : World) (base e size : Nat) (v v' : Value) (k : Nat) (L : List Value) : Prop where
  own : OwnL w' base e size v' k L
  kept : Kept (fun g => v.ownBlock = some g) w w'
  block : v'.ownBlock = v.ownBlock ∨ v'.ownBlock = some w.heap.size
  low : ∀ g, v.ownBlock = some g → base ≤ g
theorem Pushed.keep {w w' a : World} {S : Nat → Prop} {base e size k : Nat} {v v' : Value} {L : List Value} (h : Pushed w w' base e size v v' k L) (hk : Kept S a w) (hb : a.heap.size ≤ base) : Kept S a w' :=
  hk.trans_ h.kept (fun i e => .inr (Nat.le_trans hb (h.low i e)))
section
variable {P : Program}
theorem wpList_push {w : World} {ops : Array Oper} {rest : List Oper} {o : Oper} {a : Act} {Q' : Exit → Act → World → Prop} (hgd : o.guard = none) (s x : Operand) (t : TypeId)
    (ho : o.op = .call { callee := .builtin .append, args := #[s, x], argTypes := #[t, t] })
    (base e : TypeId) (z : Value) (size bytes : Nat) (ht : P.underlying t = some (.slice e)) (hinfo : (P.info? e).map (fun i => (i.zero, i.size, i.bytes)) = some (some z, size, bytes))
    (hzs : z.cells.size = size) (hsz : 0 < size) (v : Value) (n : Nat) (L : List Value) (hs : a.eval s = v) (hown : OwnL w base e size v n L)
    (A : Option Addr) (m c : Nat) (M : List Value) (hx : a.eval x = .slice A m c) (hA : SlL w size A m c M) (h1 : ∀ u ∈ M, u.oneCell' = true)
    (h63 : n + m ≤ maxLen) (hbytes : (n + m) * bytes ≤ 140737488355328) (hbase : base ≤ w.heap.size)
    (h : ∀ v' w', Pushed w w' base e size v v' (n + m) (L ++ M) → wpList P ops Q' rest (a.put o.dst v') w') : wpList P ops Q' (o :: rest) a w := by
  refine wpList_append_all hgd s x t ho base e z size bytes ht hinfo hzs hsz AnyV (fun _ _ => trivial) v n (ofL L) hs hown.own A m c (ofL M) hx hA.sl (fun e => (hA.nil e).1) (fun _ _ => trivial) (fun j hj => ?_) h63 hbytes hbase fun v' w' ha => h v' w' ⟨⟨by rw [List.length_append, hown.len, hA.len, Nat.add_mul], ha.own.congr fun i _ => (ofL_append hown.len i).symm⟩, ⟨ha.grown.os, ha.grown.tape, ha.grown.output, ha.grown.size, fun i hi hn => ha.grown.block i hi (fun e => hn e.symm)⟩, ha.block, fun g hg => (hown.lt g hg).1⟩
  have hj' : j < M.length := by rw [hA.len]; exact hj
  have := h1 M[j] (List.getElem_mem hj')
  rw [ofL_get (List.getElem?_eq_getElem hj')]
  exact this
end
end Go.Proofs.YtfmblalbcodpmaaDoor
namespace Go.Proofs.YtfmblalbcodpmaaDoor
open Go.RowKit
def tyOf (b : UInt8) : Option UInt8 := if b.toNat = 105 then some 127 else if b.toNat = 108 then some 126 else if b.toNat = 102 then some 125 else if b.toNat = 100 then some 124 else if b.toNat = 118 then some 123 else none
def typesP (s : ByteArray) : List UInt8 := s.data.toList.filterMap tyOf
def u8V (b : UInt8) : Value := .int .u8 (b.toNat : Int)
theorem filterMap_take {f : UInt8 → Option UInt8} {l : List UInt8} {p : Nat} (h : p < l.length) : (l.take (p + 1)).filterMap f = (l.take p).filterMap f ++ (f l[p]).toList := by
  rw [List.take_add_one, List.getElem?_eq_getElem h, List.filterMap_append]
  simp only [Option.toList_some, List.filterMap_cons, List.filterMap_nil]
  cases f l[p] <;> rfl
theorem Tryd.infoT : (Tryd.prog.info? 53).map (fun i => (i.zero, i.size, i.bytes)) = some (some (.int .u8 0), 1, 1) := by kernel_rfl
/-- What a round leaves. -/
structure TyInv (s : ByteArray) (ib : Nat) (w w' : World) (pos : Nat) (v : Value) : Prop where
  it : w'.heap[ib]? = some (.stringIter s pos)
  own : OwnL w' (ib + 1) 53 1 v ((s.data.toList.take pos).filterMap tyOf).length (((s.data.toList.take pos).filterMap tyOf).map u8V)
  kept : Kept S0 w w'
  size : ib + 1 ≤ w'.heap.size
theorem TyInv.push {s : ByteArray} {w w1 w2 : World} {pos : Nat} {v v' : Value} {t : UInt8} {tv : Value} (htv : u8V t = tv) (hp : pos < s.data.toList.length) (ht : tyOf s.data.toList[pos] = some t) (h : TyInv s w.heap.size w w1 pos v)
    (hu : Pushed ((w1.iterAt w.heap.size s (pos + 1)).alloc (.cells #[tv] 53)) w2 (w.heap.size + 1) 53 1 v v' (((s.data.toList.take pos).filterMap tyOf).length + 1) (((s.data.toList.take pos).filterMap tyOf).map u8V ++ [tv])) : TyInv s w.heap.size w w2 (pos + 1) v' := by
  subst htv
  have e := filterMap_take (f := tyOf) hp
  rw [ht] at e
  have hk1 : Kept S0 w ((w1.iterAt w.heap.size s (pos + 1)).alloc (.cells #[u8V t] 53)) := (h.kept.iterAt (.inr (Nat.le_refl _)) s (pos + 1)).alloc _
  have hit : ((w1.iterAt w.heap.size s (pos + 1)).alloc (.cells #[u8V t] 53)).heap[w.heap.size]? = some (.stringIter s (pos + 1)) := by
    have h1 := Lib.iterAt_heap w1 w.heap.size s pos (pos + 1) h.it
    exact (Below.heap_alloc _ _ _ (lt_of_heap h1)).trans h1
  refine ⟨(hu.kept.block _ (lt_of_heap hit) (fun e => by have := hu.low _ e; omega)).trans hit, ?_, hu.keep hk1 (by omega), ?_⟩
  · rw [e]
    simpa using hu.own
  · exact Nat.le_trans (lt_of_heap hit) hu.kept.size
theorem TyInv.pass {s : ByteArray} {w w1 : World} {pos : Nat} {v : Value} (hp : pos < s.data.toList.length) (ht : tyOf s.data.toList[pos] = none) (h : TyInv s w.heap.size w w1 pos v) : TyInv s w.heap.size w (w1.iterAt w.heap.size s (pos + 1)) (pos + 1) v := by
  have e := filterMap_take (f := tyOf) hp
  rw [ht] at e
  simp only [Option.toList_none, List.append_nil] at e
  refine ⟨Lib.iterAt_heap w1 w.heap.size s pos (pos + 1) h.it, ?_, h.kept.iterAt (.inr (Nat.le_refl _)) s (pos + 1), by rw [Lib.iterAt_size]; exact h.size⟩
  rw [e]
  exact h.own.kept ((Kept.refl (S1 w.heap.size) w1).iterAt (.inl rfl) s (pos + 1)) (fun g hg e => by have e' : g = w.heap.size := e; have := (h.own.lt g hg).1; omega)
set_option maxRecDepth 100000 in
set_option maxHeartbeats 6400000 in
theorem types_any (s : ByteArray) (w : World) (hs : s.size ≤ 1000) (ha : Ascii s) :
    Calls Tryd.prog 87 #[.string s] w fun e w' => ∃ v, e = .returned v ∧ OwnL w' w.heap.size 53 1 v (typesP s).length ((typesP s).map u8V) ∧ Kept S0 w w' := by
  have hLn : s.data.toList.length = s.size := (Lib.size_eq s).symm
  have HL := Lib.hid hLn
  have HA := Lib.hid ha
  have HZ := Lib.hid hs
  have HI := Lib.hid (show TyInv s w.heap.size w (w.iter s 0) 0 (.slice none 0 0) from ⟨World.iter_heap w s 0, OwnL.nil _ _ _ _, (Kept.refl S0 w).alloc _, by simp [World.iter]⟩)
  clear hLn ha hs
  go_enter Tryd.func87, Tryd.ntmps87
  go_wp2_with fail
  go_loopw [3] (fun i wr => ∃ (pos : Nat) (A0 : Option Addr) (n0 c0 : Nat), pos ≤ s.size ∧ i = .slice A0 n0 c0 ∧ TyInv s w.heap.size w wr pos (.slice A0 n0 c0)) (fun _ wr => s.size - wr.iterPos w.heap.size)
  case atStart => exact ⟨0, _, _, _, Nat.zero_le _, rfl, HI.out⟩
  case round =>
    obtain ⟨pos, A0, n0, c0, hps, rfl, hinv⟩ := hrel
    have HV := Lib.hid hinv
    clear hinv HI
    by_cases hp : pos < s.size
    · have hpl : pos < s.data.toList.length := by have := HL.out; omega
      have e5 : s.data.toList[pos] = s[pos]'hp := rfl
      have h128 : (s[pos]'hp).toNat < 128 := HA.out pos _ (List.getElem?_eq_getElem hpl)
      have hnext : ∀ ty, (Instr.next (.pointer (some ⟨w.heap.size, 0, none⟩)) true ty).run Tryd.prog wr = _ := fun ty => Lib.run_next_ascii_at wr w.heap.size s pos ty HV.out.it hp h128
      have hmu : wr.iterPos w.heap.size = pos := by simp [World.iterPos, HV.out.it]
      have HMU := Lib.hid hmu
      have hsz : (wr.iterAt w.heap.size s (pos + 1)).heap.size = wr.heap.size := Lib.iterAt_size _ _ _ _
      have hle : ((s.data.toList.take pos).filterMap tyOf).length ≤ 1000 := by
        have h1 := List.length_filterMap_le tyOf (s.data.toList.take pos)
        rw [List.length_take] at h1
        have := HZ.out
        omega
      have hown : OwnL (wr.iterAt w.heap.size s (pos + 1)) (w.heap.size + 1) 53 1 (.slice A0 n0 c0) ((s.data.toList.take pos).filterMap tyOf).length (((s.data.toList.take pos).filterMap tyOf).map u8V) := HV.out.own.kept ((Kept.refl (S1 w.heap.size) wr).iterAt (.inl rfl) s (pos + 1)) (fun g hg e => by have e' : g = w.heap.size := e; have := (HV.out.own.lt g hg).1; omega)
      have hws : w.heap.size + 1 ≤ wr.heap.size := HV.out.size
      -- LETTERS
      by_cases h0 : (s[pos]'hp).toNat = 105
      · have ht : tyOf (s.data.toList[pos]) = some 127 := by rw [e5]; unfold tyOf; rw [if_pos h0]
        rw [h0] at hnext
        have HU := Lib.hid (fun v' w2 (hu : Pushed ((wr.iterAt w.heap.size s (pos + 1)).alloc (.cells #[.int .u8 127] 53)) w2 (w.heap.size + 1) 53 1 (.slice A0 n0 c0) v' (((s.data.toList.take pos).filterMap tyOf).length + 1) (((s.data.toList.take pos).filterMap tyOf).map u8V ++ [.int .u8 127])) => HV.out.push (t := 127) (tv := .int .u8 127) rfl hpl ht hu)
        have hown2 := hown.kept0 ((Kept.refl S0 _).alloc (.cells #[.int .u8 127] 53))
        have hsrc : SlL ((wr.iterAt w.heap.size s (pos + 1)).alloc (.cells #[.int .u8 127] 53)) 1 (some ⟨wr.heap.size, 0, none⟩) 1 1 [.int .u8 127] := by
          have h1 := SlL.of_blk (size := 1) (n := 1) (Blk.new (wr.iterAt w.heap.size s (pos + 1)) 53 #[.int .u8 127]) rfl (by decide)
          rw [hsz] at h1
          exact h1
        have hbase : w.heap.size + 1 ≤ ((wr.iterAt w.heap.size s (pos + 1)).alloc (.cells #[.int .u8 127] 53)).heap.size := by simp [hsz]; omega
        generalize wr.iterAt w.heap.size s (pos + 1) = w1 at *
        generalize ((s.data.toList.take pos).filterMap tyOf).length = n at *
        generalize ((s.data.toList.take pos).filterMap tyOf).map u8V = LL at *
        clear hown ht e5 hmu
        have hws := hsz
        have HSZ := Lib.hid hsz
        clear hsz
        rw [← hws] at hsrc
        clear hws
        go_wp2_with (at_builtin; refine wpList_push rfl (.tmp 14) (.tmp 15) 26 rfl (w.heap.size + 1) 53 (.int .u8 0) 1 1 Tryd.underlying26 Tryd.infoT rfl (by decide) (.slice A0 n0 c0) n LL rfl hown2 (some ⟨w1.heap.size, 0, none⟩) 1 1 [.int .u8 127] rfl hsrc (by simp [Value.oneCell']) (by unfold maxLen; omega) (by omega) hbase ?_)
        intro v' w2 hu
        obtain ⟨A1, c1, rfl, _⟩ := hu.own.out
        have HN := Lib.hid (HU.out _ w2 hu)
        clear hu hown2 hsrc hbase
        go_wp2_with fail
        go_roundw
        case rel => exact ⟨pos + 1, _, _, _, by omega, rfl, HN.out⟩
        case measure =>
          have hmu2 : w2.iterPos w.heap.size = pos + 1 := by simp [World.iterPos, HN.out.it]
          rw [HMU.out, hmu2]
          omega
      by_cases h1 : (s[pos]'hp).toNat = 108
      · have ht : tyOf (s.data.toList[pos]) = some 126 := by rw [e5]; unfold tyOf; rw [if_neg (show ¬ (s[pos]'hp).toNat = 105 by omega), if_pos h1]
        rw [h1] at hnext
        have HU := Lib.hid (fun v' w2 (hu : Pushed ((wr.iterAt w.heap.size s (pos + 1)).alloc (.cells #[.int .u8 126] 53)) w2 (w.heap.size + 1) 53 1 (.slice A0 n0 c0) v' (((s.data.toList.take pos).filterMap tyOf).length + 1) (((s.data.toList.take pos).filterMap tyOf).map u8V ++ [.int .u8 126])) => HV.out.push (t := 126) (tv := .int .u8 126) rfl hpl ht hu)
        have hown2 := hown.kept0 ((Kept.refl S0 _).alloc (.cells #[.int .u8 126] 53))
        have hsrc : SlL ((wr.iterAt w.heap.size s (pos + 1)).alloc (.cells #[.int .u8 126] 53)) 1 (some ⟨wr.heap.size, 0, none⟩) 1 1 [.int .u8 126] := by
          have h1 := SlL.of_blk (size := 1) (n := 1) (Blk.new (wr.iterAt w.heap.size s (pos + 1)) 53 #[.int .u8 126]) rfl (by decide)
          rw [hsz] at h1
          exact h1
        have hbase : w.heap.size + 1 ≤ ((wr.iterAt w.heap.size s (pos + 1)).alloc (.cells #[.int .u8 126] 53)).heap.size := by simp [hsz]; omega
        generalize wr.iterAt w.heap.size s (pos + 1) = w1 at *
        generalize ((s.data.toList.take pos).filterMap tyOf).length = n at *
        generalize ((s.data.toList.take pos).filterMap tyOf).map u8V = LL at *
        clear hown ht e5 hmu
        have hws := hsz
        have HSZ := Lib.hid hsz
        clear hsz
        rw [← hws] at hsrc
        clear hws
        go_wp2_with (at_builtin; refine wpList_push rfl (.tmp 19) (.tmp 20) 26 rfl (w.heap.size + 1) 53 (.int .u8 0) 1 1 Tryd.underlying26 Tryd.infoT rfl (by decide) (.slice A0 n0 c0) n LL rfl hown2 (some ⟨w1.heap.size, 0, none⟩) 1 1 [.int .u8 126] rfl hsrc (by simp [Value.oneCell']) (by unfold maxLen; omega) (by omega) hbase ?_)
        intro v' w2 hu
        obtain ⟨A1, c1, rfl, _⟩ := hu.own.out
        have HN := Lib.hid (HU.out _ w2 hu)
        clear hu hown2 hsrc hbase
        go_wp2_with fail
        go_roundw
        case rel => exact ⟨pos + 1, _, _, _, by omega, rfl, HN.out⟩
        case measure =>
          have hmu2 : w2.iterPos w.heap.size = pos + 1 := by simp [World.iterPos, HN.out.it]
          rw [HMU.out, hmu2]
          omega
      by_cases h2 : (s[pos]'hp).toNat = 102
      · have ht : tyOf (s.data.toList[pos]) = some 125 := by rw [e5]; unfold tyOf; rw [if_neg (show ¬ (s[pos]'hp).toNat = 105 by omega), if_neg (show ¬ (s[pos]'hp).toNat = 108 by omega), if_pos h2]
        rw [h2] at hnext
        have HU := Lib.hid (fun v' w2 (hu : Pushed ((wr.iterAt w.heap.size s (pos + 1)).alloc (.cells #[.int .u8 125] 53)) w2 (w.heap.size + 1) 53 1 (.slice A0 n0 c0) v' (((s.data.toList.take pos).filterMap tyOf).length + 1) (((s.data.toList.take pos).filterMap tyOf).map u8V ++ [.int .u8 125])) => HV.out.push (t := 125) (tv := .int .u8 125) rfl hpl ht hu)
        have hown2 := hown.kept0 ((Kept.refl S0 _).alloc (.cells #[.int .u8 125] 53))
        have hsrc : SlL ((wr.iterAt w.heap.size s (pos + 1)).alloc (.cells #[.int .u8 125] 53)) 1 (some ⟨wr.heap.size, 0, none⟩) 1 1 [.int .u8 125] := by
          have h1 := SlL.of_blk (size := 1) (n := 1) (Blk.new (wr.iterAt w.heap.size s (pos + 1)) 53 #[.int .u8 125]) rfl (by decide)
          rw [hsz] at h1
          exact h1
        have hbase : w.heap.size + 1 ≤ ((wr.iterAt w.heap.size s (pos + 1)).alloc (.cells #[.int .u8 125] 53)).heap.size := by simp [hsz]; omega
        generalize wr.iterAt w.heap.size s (pos + 1) = w1 at *
        generalize ((s.data.toList.take pos).filterMap tyOf).length = n at *
        generalize ((s.data.toList.take pos).filterMap tyOf).map u8V = LL at *
        clear hown ht e5 hmu
        have hws := hsz
        have HSZ := Lib.hid hsz
        clear hsz
        rw [← hws] at hsrc
        clear hws
        go_wp2_with (at_builtin; refine wpList_push rfl (.tmp 24) (.tmp 25) 26 rfl (w.heap.size + 1) 53 (.int .u8 0) 1 1 Tryd.underlying26 Tryd.infoT rfl (by decide) (.slice A0 n0 c0) n LL rfl hown2 (some ⟨w1.heap.size, 0, none⟩) 1 1 [.int .u8 125] rfl hsrc (by simp [Value.oneCell']) (by unfold maxLen; omega) (by omega) hbase ?_)
        intro v' w2 hu
        obtain ⟨A1, c1, rfl, _⟩ := hu.own.out
        have HN := Lib.hid (HU.out _ w2 hu)
        clear hu hown2 hsrc hbase
        go_wp2_with fail
        go_roundw
        case rel => exact ⟨pos + 1, _, _, _, by omega, rfl, HN.out⟩
        case measure =>
          have hmu2 : w2.iterPos w.heap.size = pos + 1 := by simp [World.iterPos, HN.out.it]
          rw [HMU.out, hmu2]
          omega
      by_cases h3 : (s[pos]'hp).toNat = 100
      · have ht : tyOf (s.data.toList[pos]) = some 124 := by rw [e5]; unfold tyOf; rw [if_neg (show ¬ (s[pos]'hp).toNat = 105 by omega), if_neg (show ¬ (s[pos]'hp).toNat = 108 by omega), if_neg (show ¬ (s[pos]'hp).toNat = 102 by omega), if_pos h3]
        rw [h3] at hnext
        have HU := Lib.hid (fun v' w2 (hu : Pushed ((wr.iterAt w.heap.size s (pos + 1)).alloc (.cells #[.int .u8 124] 53)) w2 (w.heap.size + 1) 53 1 (.slice A0 n0 c0) v' (((s.data.toList.take pos).filterMap tyOf).length + 1) (((s.data.toList.take pos).filterMap tyOf).map u8V ++ [.int .u8 124])) => HV.out.push (t := 124) (tv := .int .u8 124) rfl hpl ht hu)
        have hown2 := hown.kept0 ((Kept.refl S0 _).alloc (.cells #[.int .u8 124] 53))
        have hsrc : SlL ((wr.iterAt w.heap.size s (pos + 1)).alloc (.cells #[.int .u8 124] 53)) 1 (some ⟨wr.heap.size, 0, none⟩) 1 1 [.int .u8 124] := by
          have h1 := SlL.of_blk (size := 1) (n := 1) (Blk.new (wr.iterAt w.heap.size s (pos + 1)) 53 #[.int .u8 124]) rfl (by decide)
          rw [hsz] at h1
          exact h1
        have hbase : w.heap.size + 1 ≤ ((wr.iterAt w.heap.size s (pos + 1)).alloc (.cells #[.int .u8 124] 53)).heap.size := by simp [hsz]; omega
        generalize wr.iterAt w.heap.size s (pos + 1) = w1 at *
        generalize ((s.data.toList.take pos).filterMap tyOf).length = n at *
        generalize ((s.data.toList.take pos).filterMap tyOf).map u8V = LL at *
        clear hown ht e5 hmu
        have hws := hsz
        have HSZ := Lib.hid hsz
        clear hsz
        rw [← hws] at hsrc
        clear hws
        go_wp2_with (at_builtin; refine wpList_push rfl (.tmp 29) (.tmp 30) 26 rfl (w.heap.size + 1) 53 (.int .u8 0) 1 1 Tryd.underlying26 Tryd.infoT rfl (by decide) (.slice A0 n0 c0) n LL rfl hown2 (some ⟨w1.heap.size, 0, none⟩) 1 1 [.int .u8 124] rfl hsrc (by simp [Value.oneCell']) (by unfold maxLen; omega) (by omega) hbase ?_)
        intro v' w2 hu
        obtain ⟨A1, c1, rfl, _⟩ := hu.own.out
        have HN := Lib.hid (HU.out _ w2 hu)
        clear hu hown2 hsrc hbase
        go_wp2_with fail
        go_roundw
        case rel => exact ⟨pos + 1, _, _, _, by omega, rfl, HN.out⟩
        case measure =>
          have hmu2 : w2.iterPos w.heap.size = pos + 1 := by simp [World.iterPos, HN.out.it]
          rw [HMU.out, hmu2]
          omega
      by_cases h4 : (s[pos]'hp).toNat = 118
      · have ht : tyOf (s.data.toList[pos]) = some 123 := by rw [e5]; unfold tyOf; rw [if_neg (show ¬ (s[pos]'hp).toNat = 105 by omega), if_neg (show ¬ (s[pos]'hp).toNat = 108 by omega), if_neg (show ¬ (s[pos]'hp).toNat = 102 by omega), if_neg (show ¬ (s[pos]'hp).toNat = 100 by omega), if_pos h4]
        rw [h4] at hnext
        have HU := Lib.hid (fun v' w2 (hu : Pushed ((wr.iterAt w.heap.size s (pos + 1)).alloc (.cells #[.int .u8 123] 53)) w2 (w.heap.size + 1) 53 1 (.slice A0 n0 c0) v' (((s.data.toList.take pos).filterMap tyOf).length + 1) (((s.data.toList.take pos).filterMap tyOf).map u8V ++ [.int .u8 123])) => HV.out.push (t := 123) (tv := .int .u8 123) rfl hpl ht hu)
        have hown2 := hown.kept0 ((Kept.refl S0 _).alloc (.cells #[.int .u8 123] 53))
        have hsrc : SlL ((wr.iterAt w.heap.size s (pos + 1)).alloc (.cells #[.int .u8 123] 53)) 1 (some ⟨wr.heap.size, 0, none⟩) 1 1 [.int .u8 123] := by
          have h1 := SlL.of_blk (size := 1) (n := 1) (Blk.new (wr.iterAt w.heap.size s (pos + 1)) 53 #[.int .u8 123]) rfl (by decide)
          rw [hsz] at h1
          exact h1
        have hbase : w.heap.size + 1 ≤ ((wr.iterAt w.heap.size s (pos + 1)).alloc (.cells #[.int .u8 123] 53)).heap.size := by simp [hsz]; omega
        generalize wr.iterAt w.heap.size s (pos + 1) = w1 at *
        generalize ((s.data.toList.take pos).filterMap tyOf).length = n at *
        generalize ((s.data.toList.take pos).filterMap tyOf).map u8V = LL at *
        clear hown ht e5 hmu
        have hws := hsz
        have HSZ := Lib.hid hsz
        clear hsz
        rw [← hws] at hsrc
        clear hws
        go_wp2_with (at_builtin; refine wpList_push rfl (.tmp 34) (.tmp 35) 26 rfl (w.heap.size + 1) 53 (.int .u8 0) 1 1 Tryd.underlying26 Tryd.infoT rfl (by decide) (.slice A0 n0 c0) n LL rfl hown2 (some ⟨w1.heap.size, 0, none⟩) 1 1 [.int .u8 123] rfl hsrc (by simp [Value.oneCell']) (by unfold maxLen; omega) (by omega) hbase ?_)
        intro v' w2 hu
        obtain ⟨A1, c1, rfl, _⟩ := hu.own.out
        have HN := Lib.hid (HU.out _ w2 hu)
        clear hu hown2 hsrc hbase
        go_wp2_with fail
        go_roundw
        case rel => exact ⟨pos + 1, _, _, _, by omega, rfl, HN.out⟩
        case measure =>
          have hmu2 : w2.iterPos w.heap.size = pos + 1 := by simp [World.iterPos, HN.out.it]
          rw [HMU.out, hmu2]
          omega
      have ht : tyOf (s.data.toList[pos]) = none := by rw [e5]; unfold tyOf; rw [if_neg h0, if_neg h1, if_neg h2, if_neg h3, if_neg h4]
      have HN := Lib.hid (HV.out.pass hpl ht)
      have i0 : ¬ ((s[pos]'hp).toNat : Int) = 105 := by omega
      have i1 : ¬ ((s[pos]'hp).toNat : Int) = 108 := by omega
      have i2 : ¬ ((s[pos]'hp).toNat : Int) = 102 := by omega
      have i3 : ¬ ((s[pos]'hp).toNat : Int) = 100 := by omega
      have i4 : ¬ ((s[pos]'hp).toNat : Int) = 118 := by omega
      clear hown ht
      generalize wr.iterAt w.heap.size s (pos + 1) = w1 at *
      generalize (s[pos]'hp).toNat = c at *
      go_wp2_with fail
      go_roundw
      case rel => exact ⟨pos + 1, _, _, _, by omega, rfl, HN.out⟩
      case measure =>
        have hmu2 : w1.iterPos w.heap.size = pos + 1 := by simp [World.iterPos, HN.out.it]
        rw [HMU.out, hmu2]
        omega
      -- END
    · have hnext : ∀ ty, (Instr.next (.pointer (some ⟨w.heap.size, 0, none⟩)) true ty).run Tryd.prog wr = _ := fun ty => Lib.run_next_end_at wr w.heap.size s pos ty HV.out.it hp
      have hall : s.data.toList.take pos = s.data.toList := List.take_of_length_le (by have := HL.out; omega)
      go_wp2_with fail
      go_ret
      have ho := HV.out.own
      rw [hall] at ho
      exact ⟨_, rfl, ho.mono (by omega), HV.out.kept⟩
end Go.Proofs.YtfmblalbcodpmaaDoor
namespace Go.Proofs.YtfmblalbcodpmaaDoor
open Go.RowKit
theorem wordZ (s : ByteArray) (z : Int) (w : World) (h0 : 0 ≤ z) (hn : z ≤ 100) (hs : s.size < 4294967281) (ha : (s.data.toList.all fun b => b.toNat < 128) = true) (hz : ((List.range 101).all fun n => (wordP s n).size ≤ 40) = true) (hsp : SpTab w) :
    Calls Tryd.prog 112 #[.string s, .int .i64 z] w fun e w' => ∃ r, e = .returned (.string r) ∧ r = wordP s z.toNat ∧ r.size ≤ 40 ∧ Kept S0 w w' := by
  obtain ⟨n, rfl⟩ : ∃ n : Nat, z = n := ⟨z.toNat, by omega⟩
  refine (word_any s n w hs (by omega) (fun j b hb => by
    have := List.all_eq_true.1 ha b (List.mem_of_getElem? hb)
    simpa using this) hsp).mono ?_
  rintro e w' ⟨rfl, hk⟩
  refine ⟨_, rfl, rfl, ?_, hk⟩
  have := List.all_eq_true.1 hz n (List.mem_range.2 (by omega))
  simpa using this
def halfP (i : Nat) : ByteArray := wordP ⟨#[45, 32, 105, 56, 120, 49, 54, 32, 105, 49, 54, 120, 56, 32, 105, 51, 50, 120, 52]⟩ i
def twiceP (i : Nat) : ByteArray := wordP ⟨#[105, 49, 54, 120, 56, 32, 105, 51, 50, 120, 52, 32, 45, 32, 45]⟩ i
def shapeP (i a : Nat) : ByteArray × ByteArray :=
  if a < 2 then (wordP ⟨#[97, 98, 115, 32, 110, 101, 103]⟩ a, ⟨#[118, 58, 118]⟩)
  else if a = 3 ∨ a = 4 then (wordP ⟨#[97, 108, 108, 95, 116, 114, 117, 101, 32, 98, 105, 116, 109, 97, 115, 107]⟩ (a - 3), ⟨#[118, 58, 105]⟩)
  else if (a = 5 ∨ a = 6) ∧ i < 2 then (((⟨#[110, 97, 114, 114, 111, 119, 95]⟩ ++ twiceP i) ++ ⟨#[95]⟩) ++ wordP ⟨#[115, 32, 117]⟩ (a - 5), ⟨#[118, 118, 58, 118]⟩)
  else if 7 ≤ a ∧ a ≤ 10 ∧ 0 < i then ((((wordP ⟨#[101, 120, 116, 101, 110, 100, 95, 108, 111, 119, 32, 101, 120, 116, 101, 110, 100, 95, 104, 105, 103, 104, 32, 101, 120, 116, 101, 110, 100, 95, 108, 111, 119, 32, 101, 120, 116, 101, 110, 100, 95, 104, 105, 103, 104]⟩ (a - 7) ++ ⟨#[95]⟩) ++ halfP i) ++ ⟨#[95]⟩) ++ wordP ⟨#[115, 32, 115, 32, 117, 32, 117]⟩ (a - 7), ⟨#[118, 58, 118]⟩)
  else if 11 ≤ a ∧ a ≤ 13 then (wordP ⟨#[115, 104, 108, 32, 115, 104, 114, 95, 115, 32, 115, 104, 114, 95, 117]⟩ (a - 11), ⟨#[118, 105, 58, 118]⟩)
  else if a = 14 ∨ a = 17 then (wordP ⟨#[97, 100, 100, 32, 45, 32, 45, 32, 115, 117, 98]⟩ (a - 14), ⟨#[118, 118, 58, 118]⟩)
  else if 15 ≤ a ∧ a ≤ 19 ∧ i < 2 then (wordP ⟨#[97, 100, 100, 95, 115, 97, 116, 95, 32, 97, 100, 100, 95, 115, 97, 116, 95, 32, 45, 32, 115, 117, 98, 95, 115, 97, 116, 95, 32, 115, 117, 98, 95, 115, 97, 116, 95]⟩ (a - 15) ++ wordP ⟨#[115, 32, 117, 32, 45, 32, 115, 32, 117]⟩ (a - 15), ⟨#[118, 118, 58, 118]⟩)
  else if a = 21 ∧ 0 < i then (⟨#[109, 117, 108]⟩, ⟨#[118, 118, 58, 118]⟩)
  else if 22 ≤ a ∧ a ≤ 25 ∧ i < 3 then (wordP ⟨#[109, 105, 110, 95, 32, 109, 105, 110, 95, 32, 109, 97, 120, 95, 32, 109, 97, 120, 95]⟩ (a - 22) ++ wordP ⟨#[115, 32, 117]⟩ (a % 2), ⟨#[118, 118, 58, 118]⟩)
  else if a = 27 ∧ i < 2 then (⟨#[97, 118, 103, 114, 95, 117]⟩, ⟨#[118, 118, 58, 118]⟩)
  else if 28 ≤ a ∧ 0 < i then ((((wordP ⟨#[101, 120, 116, 109, 117, 108, 95, 108, 111, 119, 32, 101, 120, 116, 109, 117, 108, 95, 104, 105, 103, 104, 32, 101, 120, 116, 109, 117, 108, 95, 108, 111, 119, 32, 101, 120, 116, 109, 117, 108, 95, 104, 105, 103, 104]⟩ (a - 28) ++ ⟨#[95]⟩) ++ halfP i) ++ ⟨#[95]⟩) ++ wordP ⟨#[115, 32, 115, 32, 117, 32, 117]⟩ (a - 28), ⟨#[118, 118, 58, 118]⟩)
  else (⟨#[]⟩, ⟨#[]⟩)
set_option maxRecDepth 100000 in
set_option maxHeartbeats 16000000 in
theorem shape_0 (w : World) (z : Int) (hz : 0 ≤ z ∧ z < 32) (hsp : SpTab w) : Calls Tryd.prog 111 #[.int .i64 0, .int .i64 z] w fun e w' => e = .returned (.tuple #[.string (shapeP 0 z.toNat).1, .string (shapeP 0 z.toNat).2]) ∧ Kept S0 w w' := by
  have HS := Lib.hid hsp
  have HK := Lib.hid (Kept.refl S0 w)
  clear hsp
  have hc : z = 0 ∨ z = 1 ∨ z = 2 ∨ z = 3 ∨ z = 4 ∨ z = 5 ∨ z = 6 ∨ z = 7 ∨ z = 8 ∨ z = 9 ∨ z = 10 ∨ z = 11 ∨ z = 12 ∨ z = 13 ∨ z = 14 ∨ z = 15 ∨ z = 16 ∨ z = 17 ∨ z = 18 ∨ z = 19 ∨ z = 20 ∨ z = 21 ∨ z = 22 ∨ z = 23 ∨ z = 24 ∨ z = 25 ∨ z = 26 ∨ z = 27 ∨ z = 28 ∨ z = 29 ∨ z = 30 ∨ z = 31 := by omega
  clear hz
  rcases hc with rfl | rfl | rfl | rfl | rfl | rfl | rfl | rfl | rfl | rfl | rfl | rfl | rfl | rfl | rfl | rfl | rfl | rfl | rfl | rfl | rfl | rfl | rfl | rfl | rfl | rfl | rfl | rfl | rfl | rfl | rfl | rfl
  all_goals
    go_enter Tryd.func111, Tryd.ntmps111
    go_wp2_with fail
    repeat (
      refine (wordZ _ _ _ (by decide) (by decide) (by decide) (by decide) (by kernel_rfl) (HS.out.kept0 HK.out)).mono ?_
      rintro e w1 ⟨r1, rfl, h1, z1, hk1⟩
      replace HK := Lib.hid (HK.out.then0 hk1)
      replace h1 := Lib.hid h1
      clear hk1
      go_wp2_with fail)
    go_ret2
    simp only [RowKit.Hid] at *
    subst_vars
    exact ⟨rfl, by assumption⟩
set_option maxRecDepth 100000 in
set_option maxHeartbeats 16000000 in
theorem shape_1 (w : World) (z : Int) (hz : 0 ≤ z ∧ z < 32) (hsp : SpTab w) : Calls Tryd.prog 111 #[.int .i64 1, .int .i64 z] w fun e w' => e = .returned (.tuple #[.string (shapeP 1 z.toNat).1, .string (shapeP 1 z.toNat).2]) ∧ Kept S0 w w' := by
  have HS := Lib.hid hsp
  have HK := Lib.hid (Kept.refl S0 w)
  clear hsp
  have hc : z = 0 ∨ z = 1 ∨ z = 2 ∨ z = 3 ∨ z = 4 ∨ z = 5 ∨ z = 6 ∨ z = 7 ∨ z = 8 ∨ z = 9 ∨ z = 10 ∨ z = 11 ∨ z = 12 ∨ z = 13 ∨ z = 14 ∨ z = 15 ∨ z = 16 ∨ z = 17 ∨ z = 18 ∨ z = 19 ∨ z = 20 ∨ z = 21 ∨ z = 22 ∨ z = 23 ∨ z = 24 ∨ z = 25 ∨ z = 26 ∨ z = 27 ∨ z = 28 ∨ z = 29 ∨ z = 30 ∨ z = 31 := by omega
  clear hz
  rcases hc with rfl | rfl | rfl | rfl | rfl | rfl | rfl | rfl | rfl | rfl | rfl | rfl | rfl | rfl | rfl | rfl | rfl | rfl | rfl | rfl | rfl | rfl | rfl | rfl | rfl | rfl | rfl | rfl | rfl | rfl | rfl | rfl
  all_goals
    go_enter Tryd.func111, Tryd.ntmps111
    go_wp2_with fail
    repeat (
      refine (wordZ _ _ _ (by decide) (by decide) (by decide) (by decide) (by kernel_rfl) (HS.out.kept0 HK.out)).mono ?_
      rintro e w1 ⟨r1, rfl, h1, z1, hk1⟩
      replace HK := Lib.hid (HK.out.then0 hk1)
      replace h1 := Lib.hid h1
      clear hk1
      go_wp2_with fail)
    go_ret2
    simp only [RowKit.Hid] at *
    subst_vars
    exact ⟨rfl, by assumption⟩
end Go.Proofs.YtfmblalbcodpmaaDoor
namespace Go.Proofs.YtfmblalbcodpmaaDoor
open Go.RowKit
def piecesL (s : ByteArray) (c : UInt8) : List (List UInt8) := Lib.splitK [c] 0 (Lib.count s.data.toList [c]) s.data.toList
theorem piecesP_eq (s : ByteArray) (c : UInt8) : piecesP s c = (piecesL s c).map fun l => ⟨l.toArray⟩ := by
  have h := Lib.splitB_data ⟨#[c]⟩ 0 (Lib.countB s ⟨#[c]⟩) s
  have h2 : piecesL s c = (piecesP s c).map (·.data.toList) := h.symm
  rw [h2, List.map_map]
  conv => lhs; rw [← List.map_id (piecesP s c)]
  refine List.map_congr_left fun x _ => ?_
  show x = ⟨x.data.toList.toArray⟩
  rw [Array.toArray_toList]
def asciiB (s : ByteArray) : Bool := s.data.toList.all fun b => b.toNat < 128
def gokB (g : Grp) : Bool :=
  g.names.size < 100000 && g.ahead.size < 100000 && g.types.size < 100000 && g.bits.size < 100000 && g.first < 65536 && asciiB g.types && asciiB g.bits &&
  ((piecesL g.names sp).all fun p => p.length < 100000) && (wordsP g.bits).all fun q => q.size ≤ 5 && q.data.toList.all fun b => 48 ≤ b.toNat && b.toNat ≤ 57
theorem ascii_of {s : ByteArray} (h : asciiB s = true) : Ascii s := fun j b hb => by
  have := List.all_eq_true.1 h b (List.mem_of_getElem? hb)
  simpa using this
theorem gok_of {g : Grp} (h : gokB g = true) : GOk g := by
  unfold gokB at h
  simp only [Bool.and_eq_true, decide_eq_true_eq, List.all_eq_true] at h
  obtain ⟨⟨⟨⟨⟨⟨⟨⟨h1, h2⟩, h3⟩, h4⟩, h5⟩, h6⟩, h7⟩, h8⟩, h9⟩ := h
  refine ⟨h1, h2, fun k _ => ?_, ⟨h3, ascii_of h6⟩, ⟨h4, ascii_of h7⟩, h5, fun k _ => ?_⟩
  · rw [List.getD_eq_getElem?_getD, piecesP_eq, List.getElem?_map]
    cases hk : (piecesL g.names sp)[k]? with
    | none => exact Nat.zero_lt_succ _
    | some p => exact h8 p (List.mem_of_getElem? hk)
  · have key : ∀ k, ((wordsP g.bits).getD k ByteArray.empty).size ≤ 5 ∧ ∀ b ∈ ((wordsP g.bits).getD k ByteArray.empty).data.toList, 48 ≤ b.toNat ∧ b.toNat ≤ 57 := fun k => by
      rw [List.getD_eq_getElem?_getD]
      cases hk : (wordsP g.bits)[k]? with
      | none => exact ⟨Nat.zero_le _, fun b hb => absurd hb List.not_mem_nil⟩
      | some p => exact h9 p (List.mem_of_getElem? hk)
    have key2 : (wordP g.bits k).size ≤ 5 ∧ ∀ b ∈ (wordP g.bits k).data.toList, 48 ≤ b.toNat ∧ b.toNat ≤ 57 := by
      unfold wordP
      split
      · exact key 0
      · exact key k
    refine ⟨key2.1, fun j hj => ?_⟩
    have hl : (wordP g.bits k).data.toList.length = (wordP g.bits k).size := (Lib.size_eq _).symm
    rw [List.getD_eq_getElem?_getD, List.getElem?_eq_getElem (show j < (wordP g.bits k).data.toList.length by omega)]
    exact key2.2 _ (List.getElem_mem _)
theorem gok_all {l : List Grp} (h : l.all gokB = true) : ∀ g ∈ l, GOk g := fun g hg => gok_of (List.all_eq_true.1 h g hg)
theorem gok_control : ∀ g ∈ t_control, GOk g := gok_all (by kernel_rfl)
theorem gok_numeric : ∀ g ∈ t_numeric, GOk g := gok_all (by kernel_rfl)
theorem gok_misc : ∀ g ∈ t_misc, GOk g := gok_all (by kernel_rfl)
theorem gok_vectors : ∀ g ∈ t_vectors, GOk g := gok_all (by kernel_rfl)
theorem gok_odd : ∀ g ∈ t_odd, GOk g := gok_all (by kernel_rfl)
def vectorR (n : Nat) : RowP × Bool :=
  if n < 96 then ((findP t_vectors n).getD RowP.zero, (findP t_vectors n).isSome)
  else if (findP t_odd n).isSome then ((findP t_odd n).getD RowP.zero, true)
  else if 224 ≤ n then (RowP.zero, false)
  else (⟨wordP ⟨#[105, 56, 120, 49, 54, 46, 32, 105, 49, 54, 120, 56, 46, 32, 105, 51, 50, 120, 52, 46, 32, 105, 54, 52, 120, 50, 46]⟩ ((n - 96) / 32) ++ (shapeP ((n - 96) / 32) ((n - 96) % 32)).1, (shapeP ((n - 96) / 32) ((n - 96) % 32)).2, 0, 0, true⟩, !(shapeP ((n - 96) / 32) ((n - 96) % 32)).1.data.toList.isEmpty)
def lookR (o : Nat) : RowP × Bool :=
  if 64768 ≤ o ∧ o ≤ 65023 then vectorR (o - 64768)
  else if 64512 ≤ o ∧ o ≤ 64767 then ((findP t_misc (o - 64512)).getD RowP.zero, (findP t_misc (o - 64512)).isSome)
  else if 255 < o then (RowP.zero, false)
  else if 65 ≤ o ∧ o < 208 then ((findP t_numeric o).getD RowP.zero, (findP t_numeric o).isSome)
  else ((findP t_control o).getD RowP.zero, (findP t_control o).isSome)
theorem rowRet_eq (o : Option RowP) : rowRet o = .tuple #[(o.getD RowP.zero).val, .bool o.isSome] := by
  cases o <;> rfl
end Go.Proofs.YtfmblalbcodpmaaDoor
namespace Go.Proofs.YtfmblalbcodpmaaDoor
open Go.RowKit
set_option maxRecDepth 100000 in
set_option maxHeartbeats 16000000 in
theorem shape_2 (w : World) (z : Int) (hz : 0 ≤ z ∧ z < 32) (hsp : SpTab w) : Calls Tryd.prog 111 #[.int .i64 2, .int .i64 z] w fun e w' => e = .returned (.tuple #[.string (shapeP 2 z.toNat).1, .string (shapeP 2 z.toNat).2]) ∧ Kept S0 w w' := by
  have HS := Lib.hid hsp
  have HK := Lib.hid (Kept.refl S0 w)
  clear hsp
  have hc : z = 0 ∨ z = 1 ∨ z = 2 ∨ z = 3 ∨ z = 4 ∨ z = 5 ∨ z = 6 ∨ z = 7 ∨ z = 8 ∨ z = 9 ∨ z = 10 ∨ z = 11 ∨ z = 12 ∨ z = 13 ∨ z = 14 ∨ z = 15 ∨ z = 16 ∨ z = 17 ∨ z = 18 ∨ z = 19 ∨ z = 20 ∨ z = 21 ∨ z = 22 ∨ z = 23 ∨ z = 24 ∨ z = 25 ∨ z = 26 ∨ z = 27 ∨ z = 28 ∨ z = 29 ∨ z = 30 ∨ z = 31 := by omega
  clear hz
  rcases hc with rfl | rfl | rfl | rfl | rfl | rfl | rfl | rfl | rfl | rfl | rfl | rfl | rfl | rfl | rfl | rfl | rfl | rfl | rfl | rfl | rfl | rfl | rfl | rfl | rfl | rfl | rfl | rfl | rfl | rfl | rfl | rfl
  all_goals
    go_enter Tryd.func111, Tryd.ntmps111
    go_wp2_with fail
    repeat (
      refine (wordZ _ _ _ (by decide) (by decide) (by decide) (by decide) (by kernel_rfl) (HS.out.kept0 HK.out)).mono ?_
      rintro e w1 ⟨r1, rfl, h1, z1, hk1⟩
      replace HK := Lib.hid (HK.out.then0 hk1)
      replace h1 := Lib.hid h1
      clear hk1
      go_wp2_with fail)
    go_ret2
    simp only [RowKit.Hid] at *
    subst_vars
    exact ⟨rfl, by assumption⟩
set_option maxRecDepth 100000 in
set_option maxHeartbeats 16000000 in
theorem shape_3 (w : World) (z : Int) (hz : 0 ≤ z ∧ z < 32) (hsp : SpTab w) : Calls Tryd.prog 111 #[.int .i64 3, .int .i64 z] w fun e w' => e = .returned (.tuple #[.string (shapeP 3 z.toNat).1, .string (shapeP 3 z.toNat).2]) ∧ Kept S0 w w' := by
  have HS := Lib.hid hsp
  have HK := Lib.hid (Kept.refl S0 w)
  clear hsp
  have hc : z = 0 ∨ z = 1 ∨ z = 2 ∨ z = 3 ∨ z = 4 ∨ z = 5 ∨ z = 6 ∨ z = 7 ∨ z = 8 ∨ z = 9 ∨ z = 10 ∨ z = 11 ∨ z = 12 ∨ z = 13 ∨ z = 14 ∨ z = 15 ∨ z = 16 ∨ z = 17 ∨ z = 18 ∨ z = 19 ∨ z = 20 ∨ z = 21 ∨ z = 22 ∨ z = 23 ∨ z = 24 ∨ z = 25 ∨ z = 26 ∨ z = 27 ∨ z = 28 ∨ z = 29 ∨ z = 30 ∨ z = 31 := by omega
  clear hz
  rcases hc with rfl | rfl | rfl | rfl | rfl | rfl | rfl | rfl | rfl | rfl | rfl | rfl | rfl | rfl | rfl | rfl | rfl | rfl | rfl | rfl | rfl | rfl | rfl | rfl | rfl | rfl | rfl | rfl | rfl | rfl | rfl | rfl
  all_goals
    go_enter Tryd.func111, Tryd.ntmps111
    go_wp2_with fail
    repeat (
      refine (wordZ _ _ _ (by decide) (by decide) (by decide) (by decide) (by kernel_rfl) (HS.out.kept0 HK.out)).mono ?_
      rintro e w1 ⟨r1, rfl, h1, z1, hk1⟩
      replace HK := Lib.hid (HK.out.then0 hk1)
      replace h1 := Lib.hid h1
      clear hk1
      go_wp2_with fail)
    go_ret2
    simp only [RowKit.Hid] at *
    subst_vars
    exact ⟨rfl, by assumption⟩
theorem shape_any (i a : Nat) (w : World) (hi : i < 4) (ha : a < 32) (hsp : SpTab w) : Calls Tryd.prog 111 #[.int .i64 (i : Int), .int .i64 (a : Int)] w fun e w' => e = .returned (.tuple #[.string (shapeP i a).1, .string (shapeP i a).2]) ∧ Kept S0 w w' := by
  have hc : i = 0 ∨ i = 1 ∨ i = 2 ∨ i = 3 := by omega
  rcases hc with rfl | rfl | rfl | rfl
  · exact shape_0 w a (by omega) hsp
  · exact shape_1 w a (by omega) hsp
  · exact shape_2 w a (by omega) hsp
  · exact shape_3 w a (by omega) hsp
end Go.Proofs.YtfmblalbcodpmaaDoor
