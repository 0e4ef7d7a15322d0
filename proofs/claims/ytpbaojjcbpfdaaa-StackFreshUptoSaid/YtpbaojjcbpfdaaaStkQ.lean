/- The contract of a checker's Frames. No condition. -/
import Derived.Test.YtpbaojjcbpfdaaaStkP
import Derived.Test.YtpbaojjcbpfdaaaHeldS
namespace Go.Proofs.Ytpbaojjcbpfdaaa
open Go.RowKit

/-- A frame among new ones: its lists are owned. -/
def FrNew (w : World) (b : Nat) (G : Nat → Value) (q : Nat) (d : Frm) : Prop :=
  ∃ x y, FrAt G q d.op x y d.h d.dead ∧ Own w b 30 1 IsByte x d.n (byteV d.u) ∧ Own w b 30 1 IsByte y d.m (byteV d.t) ∧ d.n ≤ 140737488351232 ∧ d.m ≤ 140737488351232

/-- It is so where blocks of other types alone have changed. -/
theorem FrNew.kept {S : Nat → Prop} {w w' : World} {b q : Nat} {G : Nat → Value} {d : Frm} (h : FrNew w b G q d) (hk : Kept S w w') (hS : ∀ {x : Value} {n : Nat} {u : Nat → UInt8}, Own w b 30 1 IsByte x n (byteV u) → ∀ g, x.ownBlock = some g → ¬ S g) : FrNew w' b G q d := by
  obtain ⟨x, y, h1, h2, h3, h4⟩ := h
  exact ⟨x, y, h1, h2.kept hk (hS h2), h3.kept hk (hS h3), h4⟩

theorem FrNew.congr {w : World} {b q : Nat} {F G : Nat → Value} {d : Frm} (h : FrNew w b F q d) (he : ∀ i, i < (q + 1) * 5 → F i = G i) : FrNew w b G q d := by
  obtain ⟨x, y, h1, h2⟩ := h
  refine ⟨x, y, ⟨?_, ?_, ?_, ?_, ?_⟩, h2⟩
  · rw [← he _ (by omega)]; exact h1.f0
  · rw [← he _ (by omega)]; exact h1.f1
  · rw [← he _ (by omega)]; exact h1.f2
  · rw [← he _ (by omega)]; exact h1.f3
  · rw [← he _ (by omega)]; exact h1.f4

section
variable {w w' : World} {sb base n k : Nat} {X Z : Nat → Prop} {s : St} {v : Nat → UInt8} {lv lf : Value} {F : Nat → Value}

set_option maxHeartbeats 3200000 in
theorem frames_any (D : Nat → Frm) (hm : StkAt w sb base n v lv k F lf) (hF : FrsOk X w F k D) (hk : k ≤ 1000000000) :
    Calls Try.prog 22 #[.pointer (some ⟨sb, 0, none⟩)] w fun e w' => ∃ x G, e = .returned x ∧ Own w' w.heap.size 39 5 AnyV x k G ∧ (∀ q, q < k → FrNew w' w.heap.size G q (D q)) ∧ Kept S0 w w' := by
  have c0 := hm.c0
  have c2 := hm.c2
  obtain ⟨Af, cf, hlf, _, _, hsf⟩ := hm.frs.out
  subst hlf
  have HSF := Lib.hid hsf
  have HF := Lib.hid hF
  clear hm hF hsf
  go_enter Try.func22, Try.ntmps22
  go_wp2_with fail
  refine (off_made _ _ c0).mono ?_
  rintro e w1 ⟨rfl, rfl⟩
  go_wp2_with fail
  go_loopw [3, 13] (fun l i wr => ∃ (j : Nat) (G : Nat → Value), i = .int .i64 (j : Int) ∧ j ≤ k ∧ Own wr w.heap.size 39 5 AnyV l j G ∧ (∀ q, q < j → FrNew wr w.heap.size G q (D q)) ∧ Kept S0 w wr) (fun _ i _ => k - (intOf i).toNat)
  case atStart => exact ⟨0, fun _ => undef, rfl, by omega, Own.nil _ _ _ _ _ _, fun q hq => absurd hq (by omega), Kept.refl _ _⟩
  case round =>
    obtain ⟨j, G, rfl, hj, ho, hN, hkr⟩ := hrel
    obtain ⟨lA, lc, rfl, _, _, _⟩ := ho.out
    rcases Nat.lt_or_ge j k with hlt | hge
    · have hji : (j : Int) < (k : Int) := by omega
      have uj : IntKind.i64.wrap ((j : Int) + 1) = (j : Int) + 1 := IntWalk.i64_in _ (by omega)
      obtain ⟨A, ac, B, bc, hf, hA, hB⟩ := HF.out j hlt
      obtain ⟨g, o, hAf, hcs⟩ := HSF.out (by omega)
      subst hAf
      have hcell : ∀ i, i < k * 5 → wr.cell? ⟨g, o + i, none⟩ = some (F i) := fun i hi => (hkr.cell (p := ⟨g, o + i, none⟩) (World.block_lt_of_cell? _ _ (hcs i hi)) (fun x => x)).trans (hcs i hi)
      have f0 : wr.cell? ⟨g, o + j * 5, none⟩ = some (.int .u16 (D j).op) := by rw [hcell _ (by omega), hf.f0]
      have f1 : wr.cell? ⟨g, o + j * 5 + 1, none⟩ = some (.slice A (D j).n ac) := by rw [show o + j * 5 + 1 = o + (j * 5 + 1) by omega, hcell _ (by omega), hf.f1]
      have f2 : wr.cell? ⟨g, o + j * 5 + 2, none⟩ = some (.slice B (D j).m bc) := by rw [show o + j * 5 + 2 = o + (j * 5 + 2) by omega, hcell _ (by omega), hf.f2]
      have f3 : wr.cell? ⟨g, o + j * 5 + 3, none⟩ = some (.int .i64 ((D j).h : Int)) := by rw [show o + j * 5 + 3 = o + (j * 5 + 3) by omega, hcell _ (by omega), hf.f3]
      have f4 : wr.cell? ⟨g, o + j * 5 + 4, none⟩ = some (.bool (D j).dead) := by rw [show o + j * 5 + 4 = o + (j * 5 + 4) by omega, hcell _ (by omega), hf.f4]
      have HHF := Lib.hid hf
      have hkb := (Kept.refl S0 wr).alloc (.cells #[.int .u16 (D j).op, .slice A (D j).n ac, .slice B (D j).m bc, .int .i64 ((D j).h : Int), .bool (D j).dead] 39)
      have hbb := Blk.new wr 39 #[.int .u16 (D j).op, .slice A (D j).n ac, .slice B (D j).m bc, .int .i64 ((D j).h : Int), .bool (D j).dead]
      have HA := Lib.hid ((hA.mono (T := S0) (fun _ x => x.elim)).kept (hkr.then0 hkb))
      have HB := Lib.hid ((hB.mono (T := S0) (fun _ x => x.elim)).kept (hkr.then0 hkb))
      have HO := Lib.hid ho
      have HN := Lib.hid hN
      have HKR := Lib.hid hkr
      have HKB := Lib.hid hkb
      have HBB := Lib.hid hbb
      clear hcell hcs hf hA hB ho hN hkr hkb hbb c0 c2
      go_wp2_with fail
      refine wp_region_S (fun w' => w'.cell? ⟨wr.heap.size, 1, none⟩ = some (.slice A (D j).n ac) ∧ w'.cell? ⟨wr.heap.size, 2, none⟩ = some (.slice B (D j).m bc)) [6, 7, 8, 9] (by kernel_rfl) ?_
      have hbd : Blk (World.drew (wr.alloc (.cells #[.int .u16 (D j).op, .slice A (D j).n ac, .slice B (D j).m bc, .int .i64 ((D j).h : Int), .bool (D j).dead] 39))) wr.heap.size 39 #[.int .u16 (D j).op, .slice A (D j).n ac, .slice B (D j).m bc, .int .i64 ((D j).h : Int), .bool (D j).dead] := HBB.out
      have hkd : Kept S0 wr (World.drew (wr.alloc (.cells #[.int .u16 (D j).op, .slice A (D j).n ac, .slice B (D j).m bc, .int .i64 ((D j).h : Int), .bool (D j).dead] 39))) := HKB.out.drew
      have HAD := Lib.hid (HA.out.kept ((Kept.refl S0 _).drew))
      have HBD := Lib.hid (HB.out.kept ((Kept.refl S0 _).drew))
      generalize World.drew (wr.alloc (.cells #[.int .u16 (D j).op, .slice A (D j).n ac, .slice B (D j).m bc, .int .i64 ((D j).h : Int), .bool (D j).dead] 39)) = wd at *
      generalize hrb : wr.heap.size = rb at *
      have hS : wd.cell? ⟨rb, 1, none⟩ = some (.slice A (D j).n ac) ∧ wd.cell? ⟨rb, 2, none⟩ = some (.slice B (D j).m bc) := ⟨hbd.cell 1, hbd.cell 2⟩
      clear HA HB HBB HKB f0 f1 f2 f3 f4
      refine wpAnyS_take 0 (v := ?_) rfl (by kernel_rfl) (by kernel_rfl) (by kernel_rfl) (by kernel_rfl) (fun _ _ _ h => h) hS ⟨by rfl, ?_⟩ ?_
      rotate_left; (intro w hSw; (try dsimp only at hSw); first | (go_simp; done) | (go_simp; with_reducible rfl))
      simp only [List.getElem_toArray, List.getElem_cons_zero, Act.put, List.setIfInBounds_toArray, List.set_cons_zero, List.set_cons_succ]
      refine wpAnyS_take 1 (v := ?_) rfl (by kernel_rfl) (by kernel_rfl) (by kernel_rfl) (by kernel_rfl) (fun _ _ _ h => h) hS ⟨by rfl, ?_⟩ ?_
      rotate_left; (intro w hSw; (try dsimp only at hSw); first | (go_simp; done) | (go_simp; with_reducible rfl))
      simp only [List.getElem_toArray, List.getElem_cons_zero, List.getElem_cons_succ, Act.put, List.setIfInBounds_toArray, List.set_cons_zero, List.set_cons_succ]
      refine wpAnyS_take 3 (v := ?_) rfl (by kernel_rfl) (by kernel_rfl) (by kernel_rfl) (by kernel_rfl) (fun _ _ _ h => h) hS ⟨by rfl, ?_⟩ ?_
      rotate_left; (intro w hSw; (try dsimp only at hSw); first | (go_simp; done) | (go_simp; with_reducible rfl))
      simp only [List.getElem_toArray, List.getElem_cons_zero, List.getElem_cons_succ, Act.put, List.setIfInBounds_toArray, List.set_cons_zero, List.set_cons_succ]
      refine wpAnyS_take 4 (v := ?_) rfl (by kernel_rfl) (by kernel_rfl) (by kernel_rfl) (by kernel_rfl) (fun _ _ _ h => h) hS ⟨by rfl, ?_⟩ ?_
      rotate_left; (intro w hSw; (try dsimp only at hSw); first | (go_simp; done) | (go_simp; with_reducible rfl))
      simp only [List.getElem_toArray, List.getElem_cons_zero, List.getElem_cons_succ, Act.put, List.setIfInBounds_toArray, List.set_cons_zero, List.set_cons_succ]
      refine wpAnyS_one 2 rfl (by kernel_rfl) (fun K hK2 => ?_)
      go_simp
      go_at_call 27
      refine HAD.out.clone.mono ?_
      rintro e w2 ⟨x1, rfl, ho1, hk2⟩
      have hb2 := hk2.blk hbd (fun x => x)
      have hS2 : w2.cell? ⟨rb, 1, none⟩ = some (.slice A (D j).n ac) ∧ w2.cell? ⟨rb, 2, none⟩ = some (.slice B (D j).m bc) := ⟨hb2.cell 1, hb2.cell 2⟩
      refine hK2.out _ _ (fun _ => hS2) ?_
      clear hK2 K
      refine wpAnyS_late 6 (v := ?_) rfl (by kernel_rfl) (by kernel_rfl) (by kernel_rfl) (by kernel_rfl) (fun _ _ _ h => h) ⟨by rfl, ?_⟩ ?_
      rotate_left; (intro w; first | (go_simp; done) | (go_simp; with_reducible rfl))
      simp only [List.getElem_toArray, List.getElem_cons_zero, List.getElem_cons_succ, Act.put, List.setIfInBounds_toArray, List.set_cons_zero, List.set_cons_succ]
      refine wpAnyS_one 5 rfl (by kernel_rfl) (fun K hK5 => ?_)
      go_simp
      go_at_call 27
      refine (HBD.out.kept hk2).clone.mono ?_
      rintro e w3 ⟨x2, rfl, ho2, hk3⟩
      have hb3 := hk3.blk hb2 (fun x => x)
      have hS3 : w3.cell? ⟨rb, 1, none⟩ = some (.slice A (D j).n ac) ∧ w3.cell? ⟨rb, 2, none⟩ = some (.slice B (D j).m bc) := ⟨hb3.cell 1, hb3.cell 2⟩
      refine hK5.out _ _ (fun _ => hS3) ?_
      clear hK5 K
      obtain ⟨A1, a1, rfl, _, _, _⟩ := ho1.out
      obtain ⟨A2, a2, rfl, _, _, _⟩ := ho2.out
      refine wpAnyS_one 7 rfl (by kernel_rfl) (fun K hK7 => ?_)
      have z1 := hb3.frozen 1
      have y1 := hb3.cell 1
      go_simp
      refine hK7.out _ _ (fun h => absurd (by decide) h) ?_
      clear hK7 K
      refine wpAnyS_late 8 (v := ?_) rfl (by kernel_rfl) (by kernel_rfl) (by kernel_rfl) (by kernel_rfl) (fun _ _ _ h => h) ⟨by rfl, ?_⟩ ?_
      rotate_left; (intro w; first | (go_simp; done) | (go_simp; with_reducible rfl))
      simp only [List.getElem_toArray, List.getElem_cons_zero, List.getElem_cons_succ, Act.put, List.setIfInBounds_toArray, List.set_cons_zero, List.set_cons_succ]
      have hb4 := hb3.set_ 1 (.slice A1 (D j).n a1)
      refine wpAnyS_one 9 rfl (by kernel_rfl) (fun K hK9 => ?_)
      have z2 := hb4.frozen 2
      have y2 := hb4.cell 2
      go_simp
      refine hK9.out _ _ (fun h => absurd (by decide) h) ?_
      clear hK9 K
      refine wpAnyS_done (by kernel_rfl) ?_ _
      have hb5 : Blk ((w3.setCell ⟨rb, 1, none⟩ (.slice A1 (D j).n a1)).setCell ⟨rb, 2, none⟩ (.slice A2 (D j).m a2)) rb 39 #[.int .u16 (D j).op, .slice A1 (D j).n a1, .slice A2 (D j).m a2, .int .i64 ((D j).h : Int), .bool (D j).dead] := hb4.set_ 2 _
      have hk5 : Kept (S1 rb) w3 ((w3.setCell ⟨rb, 1, none⟩ (.slice A1 (D j).n a1)).setCell ⟨rb, 2, none⟩ (.slice A2 (D j).m a2)) := ((Kept.refl (S1 rb) w3).setCell (p := ⟨rb, 1, none⟩) (.inl rfl) _).setCell (p := ⟨rb, 2, none⟩) (.inl rfl) _
      generalize (w3.setCell ⟨rb, 1, none⟩ (.slice A1 (D j).n a1)).setCell ⟨rb, 2, none⟩ (.slice A2 (D j).m a2) = w5 at *
      have hrw : w.heap.size ≤ rb := by have := HKR.out.size; omega
      have hk05 : Kept S0 w w5 := Kept.trans_ (S' := S1 rb) (((HKR.out.then0 hkd).then0 hk2).then0 hk3) hk5 (fun i hi => .inr (by have e : i = rb := hi; omega))
      have hl5 : ∀ g', (Value.slice lA j lc).ownBlock = some g' → ¬ S1 rb g' := fun g' hg e => by have := (HO.out.lt g' hg).2; have e' : g' = rb := e; omega
      have ho5 := (((HO.out.kept hkd (fun _ _ x => x)).kept hk2 (fun _ _ x => x)).kept hk3 (fun _ _ x => x)).kept hk5 hl5
      have hN5 : ∀ q, q < j → FrNew w5 w.heap.size G q (D q) := fun q hq => ((((HN.out q hq).kept hkd (fun _ _ _ x => x)).kept hk2 (fun _ _ _ x => x)).kept hk3 (fun _ _ _ x => x)).kept hk5 (fun {x n u} hx g' hg e => hx.ne_blk hb3 (by decide) (by rw [hg]; exact congrArg some e))
      have hx5 : Own w5 w.heap.size 30 1 IsByte (.slice A1 (D j).n a1) (D j).n (byteV (D j).u) := ((ho1.kept hk3 (fun _ _ x => x)).kept hk5 (fun g' hg e => (ho1.kept hk3 (fun _ _ x => x)).ne_blk hb3 (by decide) (by rw [hg]; exact congrArg some e))).mono (Nat.le_trans HKR.out.size hkd.size)
      have hy5 : Own w5 w.heap.size 30 1 IsByte (.slice A2 (D j).m a2) (D j).m (byteV (D j).t) := (ho2.kept hk5 (fun g' hg e => ho2.ne_blk hb3 (by decide) (by rw [hg]; exact congrArg some e))).mono (Nat.le_trans (Nat.le_trans HKR.out.size hkd.size) hk2.size)
      have d0 := hb5.cell 0
      have d1 := hb5.cell 1
      have d2 := hb5.cell 2
      have d3 := hb5.cell 3
      have d4 := hb5.cell 4
      have hka := (Kept.refl S0 w5).alloc (.cells #[.int .u16 (D j).op, .slice A1 (D j).n a1, .slice A2 (D j).m a2, .int .i64 ((D j).h : Int), .bool (D j).dead] 39)
      have hna := Blk.new w5 39 #[.int .u16 (D j).op, .slice A1 (D j).n a1, .slice A2 (D j).m a2, .int .i64 ((D j).h : Int), .bool (D j).dead]
      have hoa := ho5.kept hka (fun _ _ x => x)
      have hsl : Sl (w5.alloc (.cells #[.int .u16 (D j).op, .slice A1 (D j).n a1, .slice A2 (D j).m a2, .int .i64 ((D j).h : Int), .bool (D j).dead] 39)) (some ⟨w5.heap.size, 0, none⟩) (1 * 5) (frC (D j).op (.slice A1 (D j).n a1) (.slice A2 (D j).m a2) (D j).h (D j).dead) :=
        fun _ => ⟨_, 0, rfl, fun i hi => (by match i, hi with | 0, _ => exact hna.cell 0 | 1, _ => exact hna.cell 1 | 2, _ => exact hna.cell 2 | 3, _ => exact hna.cell 3 | 4, _ => exact hna.cell 4)⟩
      have hN5' := fun q hq => (hN5 q hq).kept hka (fun _ _ _ x => x)
      have hxa := hx5.kept hka (fun _ _ x => x)
      have hya := hy5.kept hka (fun _ _ x => x)
      have hk0a := hk05.then0 hka
      have HNA := Lib.hid hN5'
      have HXA := Lib.hid hxa
      have HYA := Lib.hid hya
      have HK0A := Lib.hid hk0a
      have HLN := Lib.hid (show (D j).n ≤ 140737488351232 ∧ (D j).m ≤ 140737488351232 from ⟨HAD.out.le, HBD.out.le⟩)
      have hbase : w.heap.size ≤ (w5.alloc (.cells #[.int .u16 (D j).op, .slice A1 (D j).n a1, .slice A2 (D j).m a2, .int .i64 ((D j).h : Int), .bool (D j).dead] 39)).heap.size := hk0a.size
      clear hrw hk05 hl5 ho5 hN5 hx5 hy5 hka hna hN5' hxa hya hk0a hk5 hk2 hk3 hkd hb5 hb4 hb3 hb2 hbd hS hS2 hS3 z1 z2 y1 y2 ho1 ho2 HO HN HKR HAD HBD
      go_wp2_with (at_builtin; refine wpList_append_all rfl (.tmp 25) (.tmp 27) 43 rfl w.heap.size 39 (.agg #[.int .u16 0, .slice none 0 0, .slice none 0 0, .int .i64 0, .bool false]) 5 72 Try.underlying43 Try.infoFr rfl (by decide) AnyV (fun _ _ => trivial) _ j G rfl hoa _ 1 1 (frC (D j).op (.slice A1 (D j).n a1) (.slice A2 (D j).m a2) (D j).h (D j).dead) rfl hsl (fun h => by cases h) (fun _ _ => trivial) (fun _ _ => frC_one _ _ _ _ _ _ _ _ _ _) (by unfold maxLen; omega) (by omega) hbase ?_)
      intro v' w' ha
      have HAP := Lib.hid (show Appended _ w' w.heap.size 39 5 AnyV (.slice lA j lc) v' (j + 1) (after (j * 5) G (frC (D j).op (.slice A1 (D j).n a1) (.slice A2 (D j).m a2) (D j).h (D j).dead)) 1 from ha)
      have HOA := Lib.hid hoa
      clear ha hoa hsl hbase d0 d1 d2 d3 d4
      go_wp2_with fail
      go_roundw
      case rel =>
        have hkg : Kept (fun i => (Value.slice lA j lc).ownBlock = some i) (w5.alloc (.cells #[.int .u16 (D j).op, .slice A1 (D j).n a1, .slice A2 (D j).m a2, .int .i64 ((D j).h : Int), .bool (D j).dead] 39)) w' := (Kept.refl _ _).grown HAP.out.grown (fun k hk => .inl hk)
        have hsep : ∀ {x : Value} {n : Nat} {u : Nat → UInt8}, Own (w5.alloc (.cells #[.int .u16 (D j).op, .slice A1 (D j).n a1, .slice A2 (D j).m a2, .int .i64 ((D j).h : Int), .bool (D j).dead] 39)) w.heap.size 30 1 IsByte x n (byteV u) → ∀ g, x.ownBlock = some g → ¬ (Value.slice lA j lc).ownBlock = some g := fun hx g' hg => own_types hx HOA.out (by decide) g' hg
        refine ⟨j + 1, _, by go_num, by omega, HAP.out.own, fun q hq => ?_, HK0A.out.grown HAP.out.grown (fun k hk => .inr ?_)⟩
        · by_cases e : q = j
          · subst e
            exact ⟨_, _, frAt_new q _ _ _ _ _, HXA.out.kept hkg (hsep HXA.out), HYA.out.kept hkg (hsep HYA.out), HLN.out.1, HLN.out.2⟩
          · exact ((HNA.out q (by omega)).kept hkg hsep).congr (fun i hi => by unfold after; rw [if_pos (by omega)])
        · exact (HOA.out.lt k hk).1
      case measure => simp [intOf]; omega
    · obtain rfl : j = k := by omega
      have HO := Lib.hid ho
      have HN := Lib.hid hN
      have HKR := Lib.hid hkr
      clear ho hN hkr c0 c2
      go_wp2_with fail
      go_ret
      exact ⟨_, G, rfl, HO.out, HN.out, HKR.out⟩

theorem frames_is (h : StkIs w sb base X Z s) (hw : s.Wf) : Calls Try.prog 22 #[.pointer (some ⟨sb, 0, none⟩)] w fun e w' => ∃ x G, e = .returned x ∧ Own w' w.heap.size 39 5 AnyV x s.k G ∧ (∀ q, q < s.k → FrNew w' w.heap.size G q (s.D q)) ∧ Kept S0 w w' := by
  obtain ⟨lv, lf, F, hm, hX, hF⟩ := h.ex
  exact frames_any s.D hm hF hw.k
end
end Go.Proofs.Ytpbaojjcbpfdaaa
