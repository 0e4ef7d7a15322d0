/- What the proofs lean on, part 4 of St. No condition. -/
import Derived.Test.YtlnkdnmeikpckaaGreatMSta
import Derived.Test.YtlnkdnmeikpckaaGreatMStb
import Derived.Test.YtlnkdnmeikpckaaGreatMStc
import Derived.StillTailTactics
import Derived.Lib.AppendZerosOnto
namespace Go.Proofs.YtlnkdnmeikpckaaGreat.M19
open Go.RowKit
set_option maxRecDepth 100000
def moreF (f : Nat → UInt8) (N : Nat) : Nat → UInt8 := fun i => if i < N then f i else 0
theorem more_row {w : World} {b N M : Nat} {f : Nat → UInt8} (h : w.rowIs b 5 M (overlay 0 N (byteV f) (fun _ => .int .u8 0))) : w.rowIs b 5 M (fun i => .int .u8 ((moreF f N i).toNat : Int)) :=
  h.congr fun i _ => by
    unfold overlay moreF byteV
    by_cases e : i < N
    · rw [if_pos (by omega), if_pos e]; simp
    · rw [if_neg (by omega), if_neg e]; rfl
set_option maxHeartbeats 800000 in
theorem grow_yes (pb bb P k : Nat) (mn mx : Int) (bd : Bool) (f : Nat → UInt8) (w : World) (hm : MemAt w pb bb (P * 65536) mn mx bd f) (hP16 : P ≤ 16) (hk : k ≤ 4294967295) (h3 : 0 ≤ mx) (h4 : mx ≤ 4294967295) (hf : growB (P * 65536) k mx bd = true) :
    Calls Tryz.prog 116 #[.pointer (some ⟨pb, 0, none⟩), .int .u32 (k : Int)] w fun e w' => e = .returned (.tuple #[.int .u32 (P : Int), .int .i64 0]) ∧ ∃ b2, MemAt w' pb b2 ((P + k) * 65536) mn mx bd (moreF f (P * 65536)) ∧ w.heap.size ≤ b2 ∧ Kept (S1 pb) w w' := by
  have c0 := hm.c0
  have c2 := hm.c2
  have c3 := hm.c3
  have c4 := hm.c4
  have e1 : IntKind.u64.wrap (P : Int) = (P : Int) := IntWalk.u64_in _ (by omega)
  have e2 : IntKind.u64.wrap (k : Int) = (k : Int) := IntWalk.u64_in _ (by omega)
  have e3 : IntKind.u64.wrap ((P : Int) + (k : Int)) = (P : Int) + (k : Int) := IntWalk.u64_in _ (by omega)
  have e4 : IntKind.u64.wrap mx = mx := IntWalk.u64_in _ (by omega)
  unfold growB at hf
  rw [Nat.mul_div_cancel P (by omega : 0 < 65536)] at hf
  have pages := pages_made pb bb (P * 65536) w c0 c4 (by omega)
  rw [Nat.mul_div_cancel P (by omega : 0 < 65536)] at pages
  have HP := Lib.hid pages
  clear pages
  have hsum : P + k ≤ 16 := by
    by_cases h : P + k ≤ 16
    · exact h
    · rw [decide_eq_false h] at hf; simp at hf
  obtain ⟨M, hM⟩ : ∃ M : Nat, M = (P + k) * 65536 := ⟨_, rfl⟩
  obtain ⟨N, hN⟩ : ∃ N : Nat, N = P * 65536 := ⟨_, rfl⟩
  rw [← hN] at hm c4
  have g1' : decide ((16 : Int) < (P : Int) + (k : Int)) = false := decide_eq_false (by omega)
  have e5 : IntKind.i64.wrap ((P : Int) + (k : Int)) = (P : Int) + (k : Int) := IntWalk.i64_in _ (by omega)
  have e6 : IntKind.i64.wrap (((P : Int) + (k : Int)) * 65536) = (M : Int) := by rw [IntWalk.i64_in _ (by omega)]; omega
  have hmk := fun W => run_make_row' (P := Tryz.prog) 71 5 (.int .u8 0) 1 Tryz.underlying71 Tryz.info5 rfl .i64 .i64 M (by omega) (by omega) W
  have hpb := hm.obj.lt
  have hfz := hm.obj.frozen 4
  have hrow := (World.rowIs_made w (.int .u8 0) M 5)
  have hsl : Sl (w.alloc (.cells (madeCells #[.int .u8 0] M) 5)) (some ⟨bb, 0, none⟩) N (byteV f) := Sl.of_row (hm.row.alloc _) (Nat.le_refl _)
  have HM := Lib.hid hM
  have HNM := Lib.hid (show N ≤ M by omega)
  have HN := Lib.hid hN
  have hne : w.heap.size ≠ pb := by omega
  have hg2 : bd = false ∨ (bd = true ∧ decide (mx < (P : Int) + (k : Int)) = false) := by
    cases bd with
    | false => exact .inl rfl
    | true =>
      refine .inr ⟨rfl, decide_eq_false ?_⟩
      simp at hf
      omega
  clear hM hN hf hsum
  rcases hg2 with rfl | ⟨rfl, g2'⟩
  all_goals
    go_enter Tryz.func116, Tryz.ntmps116
    go_wp2_with (first | (go_at_call 47; refine (off_made _ _ (by assumption)).mono ?_; rintro e w' ⟨rfl, rfl⟩) | (go_at_call 48; refine HP.out.mono ?_; rintro e w' ⟨rfl, rfl⟩) | ((with_reducible refine gate (N := 46) rfl ?_); refine wpList_copy_rows rfl (.tmp 41) (.tmp 45) 71 71 rfl 5 Tryz.underlying71 Tryz.size5 _ _ M M N N rfl rfl w.heap.size 5 M 0 N (fun _ => .int .u8 0) (byteV f) (Nat.min_eq_left HNM.out) hrow (fun _ => rfl) hsl (.inr (by have := HNM.out; omega)) (fun _ _ => rfl) ?_))
    intro w' hcp
    have hB : Blk w' pb 145 _ := hcp.kept.blk (hm.obj.alloc _) (fun e => hne (Eq.symm e))
    have d4 := hB.cell 4
    have z4 := hB.frozen 4
    go_wp2
    go_ret2
    refine ⟨rfl, w.heap.size, ⟨?_, ?_⟩, Nat.le_refl _, ?_⟩
    · have := hB.set_ 4 (.slice (some ⟨w.heap.size, 0, none⟩) M M)
      rw [HM.out] at this ⊢
      exact this
    · rw [← HM.out, ← HN.out]
      exact (more_row hcp.row).setOther hne _
    · exact (((Kept.refl (S1 pb) w).alloc _).trans_ hcp.kept (fun i hi => .inr (by cases hi; exact Nat.le_refl _))).setCell (p := ⟨pb, 4, none⟩) (.inl rfl) _
end Go.Proofs.YtlnkdnmeikpckaaGreat.M19
namespace Go.Proofs.YtlnkdnmeikpckaaGreat.M19
open Go.RowKit
set_option maxRecDepth 100000
set_option maxHeartbeats 800000 in
theorem rmay_any (mn mx top : Int) (bd : Bool) (w : World) (h1 : 0 ≤ mn) (h2 : mn ≤ 4294967295) (h3 : 0 ≤ mx) (h4 : mx ≤ 4294967295) (_h5 : 0 ≤ top) (_h6 : top ≤ 18446744073709551615) :
    Calls Tryz.prog 128 #[.agg #[.int .u32 mn, .int .u32 mx, .bool bd], .int .u64 top] w fun e w' => e = .returned (.bool (mayB mn mx bd top)) ∧ Kept S0 w w' := by
  have u1 : IntKind.u64.wrap mn = mn := IntWalk.u64_in _ (by omega)
  have u2 : IntKind.u64.wrap mx = mx := IntWalk.u64_in _ (by omega)
  cases bd with
  | true =>
    by_cases c1 : mn ≤ mx
    · have hb := Lib.hid (show mayB mn mx true top = decide (mx ≤ top) by
        unfold mayB
        by_cases c2 : mx ≤ top
        · rw [decide_eq_true c2]; simp; omega
        · rw [decide_eq_false c2]; simp; omega)
      go_enter Tryz.func128, Tryz.ntmps128
      go_wp2
      go_ret
      exact ⟨ret_bool (by rw [hb.out]), (Kept.refl _ _).alloc _⟩
    · have hb := Lib.hid (show mayB mn mx true top = false by simp [mayB]; omega)
      have c1' : decide (mn ≤ mx) = false := decide_eq_false c1
      clear c1
      go_enter Tryz.func128, Tryz.ntmps128
      go_wp2
      go_ret
      exact ⟨ret_bool (by rw [hb.out]), (Kept.refl _ _).alloc _⟩
  | false =>
    by_cases c1 : mn ≤ top
    · have hb := Lib.hid (show mayB mn mx false top = (mx == 0) by simp [mayB, c1])
      go_enter Tryz.func128, Tryz.ntmps128
      go_wp2
      go_ret
      exact ⟨ret_bool (by rw [hb.out]), (Kept.refl _ _).alloc _⟩
    · have hb := Lib.hid (show mayB mn mx false top = false by simp [mayB, c1])
      have c1' : decide (mn ≤ top) = false := decide_eq_false c1
      clear c1
      go_enter Tryz.func128, Tryz.ntmps128
      go_wp2
      go_ret
      exact ⟨ret_bool (by rw [hb.out]), (Kept.refl _ _).alloc _⟩
def rmemCells (mn mx : Int) (bd : Bool) (lv : Value) : Array Value := #[.int .u32 mn, .int .u32 mx, .bool bd, lv]
/-- One of the document's memories, known. -/
structure RMemAt (w : World) (rb base n : Nat) (mn mx : Int) (bd : Bool) (lv : Value) (f : Nat → UInt8) : Prop where
  obj : Blk w rb 193 (rmemCells mn mx bd lv)
  own : Own w base 5 1 IsByte lv n (byteV f)
  lo : base ≤ rb
section
variable {w w' : World} {rb base n : Nat} {mn mx : Int} {bd : Bool} {lv : Value} {f : Nat → UInt8}
theorem RMemAt.c1 (h : RMemAt w rb base n mn mx bd lv f) : w.cell? ⟨rb, 1, none⟩ = some (.int .u32 mx) := h.obj.cell 1
theorem RMemAt.c2 (h : RMemAt w rb base n mn mx bd lv f) : w.cell? ⟨rb, 2, none⟩ = some (.bool bd) := h.obj.cell 2
theorem RMemAt.c3 (h : RMemAt w rb base n mn mx bd lv f) : w.cell? ⟨rb, 3, none⟩ = some lv := h.obj.cell 3
theorem RMemAt.ne (h : RMemAt w rb base n mn mx bd lv f) : lv.ownBlock ≠ some rb := h.own.ne_blk h.obj (by decide)
theorem RMemAt.kept {S : Nat → Prop} (h : RMemAt w rb base n mn mx bd lv f) (hk : Kept S w w') (h1 : ¬ S rb) (h2 : ∀ g, lv.ownBlock = some g → ¬ S g) : RMemAt w' rb base n mn mx bd lv f := ⟨hk.blk h.obj h1, h.own.kept hk h2, h.lo⟩
theorem RMemAt.kept0 (h : RMemAt w rb base n mn mx bd lv f) (hk : Kept S0 w w') : RMemAt w' rb base n mn mx bd lv f := h.kept hk (fun x => x) (fun _ _ x => x)
theorem RMemAt.congr {g : Nat → UInt8} (h : RMemAt w rb base n mn mx bd lv f) (e : ∀ i, i < n → f i = g i) : RMemAt w rb base n mn mx bd lv g := ⟨h.obj, h.own.congr (fun i hi => by unfold byteV; rw [e i (by omega)]), h.lo⟩
def ST (tb : Nat) (lv : Value) : Nat → Prop := fun i => i = tb ∨ lv.ownBlock = some i
end
section
variable (mn mx : Int) (bd : Bool) (w : World)
set_option maxHeartbeats 800000 in
theorem rnew_arg (h1 : 0 ≤ mn) (h2 : mn ≤ 4294967295) (h3 : 0 ≤ mx) (h4 : mx ≤ 4294967295) (hf : mayB mn mx bd 65536 = false) :
    Calls Tryz.prog 93 #[.agg #[.int .u32 mn, .int .u32 mx, .bool bd]] w fun e w' => e = .returned (.tuple #[.pointer none, .int .i64 2]) ∧ Kept S0 w w' := by
  have HF := Lib.hid hf; clear hf
  go_enter Tryz.func93, Tryz.ntmps93
  go_wp2_with fail
  refine (rmay_any _ _ _ _ _ h1 h2 h3 h4 (by omega) (by omega)).mono ?_
  rintro e w1 ⟨rfl, hk⟩
  rw [HF.out]
  go_wp2_with fail
  go_ret2
  exact ⟨rfl, ((Kept.refl S0 w).alloc _).then0 hk⟩
set_option maxHeartbeats 800000 in
theorem rnew_limit (h1 : 16 < mn) (h2 : mn ≤ 4294967295) (h3 : 0 ≤ mx) (h4 : mx ≤ 4294967295) (hf : mayB mn mx bd 65536 = true) :
    Calls Tryz.prog 93 #[.agg #[.int .u32 mn, .int .u32 mx, .bool bd]] w fun e w' => e = .returned (.tuple #[.pointer none, .int .i64 3]) ∧ Kept S0 w w' := by
  have HF := Lib.hid hf; clear hf
  have hB := Blk.new w 29 #[.int .u32 mn, .int .u32 mx, .bool bd]
  go_enter Tryz.func93, Tryz.ntmps93
  go_wp2_with fail
  refine (rmay_any _ _ _ _ _ (by omega) h2 h3 h4 (by omega) (by omega)).mono ?_
  rintro e w1 ⟨rfl, hk⟩
  rw [HF.out]
  have hB1 := hk.blk hB (fun h => h)
  have d0 := hB1.cell 0
  have HK := Lib.hid hk
  clear hB hB1 hk
  go_wp2_with fail
  go_ret2
  exact ⟨rfl, ((Kept.refl S0 w).alloc _).then0 HK.out⟩
set_option maxHeartbeats 1600000 in
theorem rnew_made (mn : Nat) (h1 : mn ≤ 16) (h3 : 0 ≤ mx) (h4 : mx ≤ 4294967295) (hf : mayB mn mx bd 65536 = true) :
    Calls Tryz.prog 93 #[.agg #[.int .u32 (mn : Int), .int .u32 mx, .bool bd]] w fun e w' => ∃ rb lv, e = .returned (.tuple #[.pointer (some ⟨rb, 0, none⟩), .int .i64 0]) ∧ RMemAt w' rb w.heap.size (mn * 65536) mn mx bd lv zeroF ∧ Kept S0 w w' := by
  have HF := Lib.hid hf; clear hf
  obtain ⟨N, hN⟩ : ∃ N : Nat, N = mn * 65536 := ⟨_, rfl⟩
  have e1 : IntKind.i64.wrap (mn : Int) = (mn : Int) := IntWalk.i64_in _ (by omega)
  have e2 : IntKind.i64.wrap (65536 * (mn : Int)) = (N : Int) := by rw [IntWalk.i64_in _ (by omega)]; omega
  have hmk := fun W => run_make_row' (P := Tryz.prog) 71 5 (.int .u8 0) 1 Tryz.underlying71 Tryz.info5 rfl .i64 .i64 N (by omega) (by omega) W
  have HN := Lib.hid hN; clear hN
  have hB := Blk.new w 29 #[.int .u32 (mn : Int), .int .u32 mx, .bool bd]
  go_enter Tryz.func93, Tryz.ntmps93
  go_wp2_with fail
  refine (rmay_any _ _ _ _ _ (by omega) (by omega) h3 h4 (by omega) (by omega)).mono ?_
  rintro e w1 ⟨rfl, hk⟩
  rw [HF.out]
  have hB1 := hk.blk hB (fun h => h)
  have d0 := hB1.cell 0
  have d1 := hB1.cell 1
  have d2 := hB1.cell 2
  have HK := Lib.hid hk
  have hlt : w.heap.size < w1.heap.size := hB1.lt
  clear hB hB1 hk
  go_wp2_with fail
  go_region
  go_wp2
  go_ret2
  have hk1 : Kept S0 w w1 := ((Kept.refl S0 w).alloc _).then0 HK.out
  obtain rfl := HN.out
  refine ⟨_, _, rfl, ⟨Blk.new1 w1 _ _ _, .inr ⟨w1.heap.size, mn * 65536, _, rfl, by omega, Nat.le_refl _, by unfold maxLen; omega, by rw [Nat.mul_one]; exact (World.rowIs_made w1 (.int .u8 0) _ 5).alloc _, fun _ _ => rfl, fun _ _ => ⟨0, rfl⟩⟩, by omega⟩, ((hk1.alloc _).alloc _).drew⟩
end
end Go.Proofs.YtlnkdnmeikpckaaGreat.M19
namespace Go.Proofs.YtlnkdnmeikpckaaGreat
open Go.RowKit
set_option maxRecDepth 100000
section
variable {P : Program}
theorem zeros_get {z : Value} {m j : Nat} (h : j < m) : (Builtin.zeroCells #[z] m)[j]? = some z := by
  obtain ⟨u, hu, hm⟩ := zeroCells_get #[z] m j (by simp) (by simpa using h)
  rw [hu]
  simp at hm
  rw [hm]
theorem run_append_zeros (w : World) (base t tn ty e : TypeId) (i : TypeInfo) (z : Value) (kq kn : IntKind) (ht : P.underlying t = some (.slice e)) (htn : P.underlying tn = some (.int kn)) (hi : P.info? e = some i) (hz : i.zero = some z)
    (hsize : i.size = 1) (hby : i.bytes = 1) (hz1 : z.cells = #[z]) (h1z : z.oneCell' = true) (Q : Value → Prop) (hQz : Q z)
    (v : Value) (n : Nat) (F : Nat → Value) (hown : Own w base e 1 Q v n F) (m : Nat) (h63 : n + m ≤ maxLen) (hbytes : n + m ≤ 140737488355328) (hbase : base ≤ w.heap.size) :
    ∃ v' w', (Builtin.append_ #[t, tn] ty #[v, .int kq (m : Int)]).run P w = .ok v' w' ∧ Own w' base e 1 Q v' (n + m) (after n F (fun _ => z)) ∧ w.grownBy w' v.ownBlock ∧
      (v'.ownBlock = v.ownBlock ∨ v'.ownBlock = some w.heap.size) := by
  have hsmall : n + m ≤ 9223372036854775807 := by simp only [maxLen] at h63; omega
  have hw : IntKind.i64.wrap (m : Int) = m := by rw [IntKind.wrap_i64]; omega
  have h48i : ¬ (281474976710656 < (m : Int)) := by omega
  have hneg : ¬ ((m : Int) < 0) := by omega
  by_cases hm : m = 0
  · subst hm
    have hcongr : ∀ j, j < n * 1 → F j = after n F (fun _ => z) j := fun j hj => by unfold after; rw [if_pos (by omega)]
    have hw0 : IntKind.i64.wrap 0 = 0 := by decide
    refine ⟨v, w, ?_, hown.congr hcongr, ⟨rfl, rfl, rfl, Nat.le_refl _, fun _ _ _ => rfl⟩, .inl rfl⟩
    rcases hown with ⟨rfl, rfl⟩ | ⟨g, cap, fr, rfl, _, hnc, _⟩
    · simp [Builtin.append_, run_underlying ht, run_underlying htn, sizeOf, typeInfo, hi, asInt, asIntOf, hw0]
    · simp [Builtin.append_, run_underlying ht, run_underlying htn, sizeOf, typeInfo, hi, asInt, asIntOf, hw0, hnc, storeCells]
  · have hns : ¬ (m * i.size = 0) := by rw [hsize]; omega
    have grown : ∀ (old : Nat) (xs : List Value), xs.length = n → (∀ j, j < n → xs[j]? = some (F j)) → (∀ j, j < n → Q (F j)) → ∀ (row : Option Nat),
        Own (w.drew.alloc (.cells (xs.toArray ++ Builtin.zeroCells #[z] m ++ Builtin.zeroCells #[z] (grownCap w (n + m) old e - (n + m))) e)) base e 1 Q
          (.slice (some ⟨w.heap.size, 0, none⟩) (n + m) (grownCap w (n + m) old e)) (n + m) (after n F (fun _ => z)) ∧
        w.grownBy (w.drew.alloc (.cells (xs.toArray ++ Builtin.zeroCells #[z] m ++ Builtin.zeroCells #[z] (grownCap w (n + m) old e - (n + m))) e)) row := by
      intro old xs hxl hxs hxq row
      have hge := grownCap_ge w (n + m) old e
      have hcm : grownCap w (n + m) old e ≤ maxLen := grownCap_le_maxLen w (n + m) old e h63
      generalize hC : grownCap w (n + m) old e = C at *
      have hsz2 : (xs.toArray ++ Builtin.zeroCells #[z] m ++ Builtin.zeroCells #[z] (C - (n + m))).size = C * 1 := by
        simp only [Array.size_append, List.size_toArray, size_zeroCells, hxl]
        simp
        omega
      have hcell : ∀ j, j < C → ∃ u, (xs.toArray ++ Builtin.zeroCells #[z] m ++ Builtin.zeroCells #[z] (C - (n + m)))[j]? = some u ∧ (j < n + m → u = after n F (fun _ => z) j) ∧ Q u := by
        intro j hj
        by_cases hj1 : j < n
        · refine ⟨F j, ?_, fun _ => by unfold after; rw [if_pos hj1], hxq j hj1⟩
          rw [Array.append_assoc, Array.getElem?_append_left (by simpa [hxl] using hj1)]
          simpa using hxs j hj1
        · by_cases hj2 : j < n + m
          · refine ⟨z, ?_, fun _ => by unfold after; rw [if_neg hj1], hQz⟩
            rw [Array.getElem?_append_left (by simp [hxl, size_zeroCells]; omega), Array.getElem?_append_right (by simp [hxl]; omega)]
            exact zeros_get (by simp [hxl]; omega)
          · refine ⟨z, ?_, fun h => absurd h hj2, hQz⟩
            rw [Array.getElem?_append_right (by simp [hxl, size_zeroCells]; omega)]
            exact zeros_get (by simp [hxl, size_zeroCells]; omega)
      refine ⟨.inr ⟨w.heap.size, C, fun j => ((xs.toArray ++ Builtin.zeroCells #[z] m ++ Builtin.zeroCells #[z] (C - (n + m)))[j]?).getD undef, rfl, hbase, hge, hcm, ⟨_, heap_alloc_new w.drew _, hsz2, fun j hj => ?_⟩, fun j hj => ?_, fun j hj => ?_⟩, ⟨rfl, rfl, rfl, by simp, fun k hk _ => Below.heap_alloc w.drew _ k hk⟩⟩
      · obtain ⟨u, hu, _⟩ := hcell j (by omega)
        simp only [hu, Option.getD_some]
      · obtain ⟨u, hu, he, _⟩ := hcell j (by omega)
        simp only [hu, Option.getD_some]
        exact he (by omega)
      · obtain ⟨u, hu, _, hq⟩ := hcell j (by omega)
        simp only [hu, Option.getD_some]
        exact hq
    rcases hown with ⟨rfl, rfl⟩ | ⟨g, cap, fr, rfl, hbg, hnc, hcm, hrow, hF, hQF⟩
    · have hr := Lib.run_append_nil_zeros (P := P) w t tn ty e i z kq kn ht htn hi hz m (by omega) (by omega) (by omega) (by rw [hby]; omega)
      have hgr := grown 0 [] (by simp) (fun j hj => absurd hj (by omega)) (fun j hj => absurd hj (by omega)) (Value.ownBlock (.slice none 0 0))
      rw [hz1] at hr
      simp only [Nat.zero_add, Array.empty_append] at hgr ⊢
      exact ⟨_, _, hr, hgr.1, hgr.2, .inr rfl⟩
    · obtain ⟨cur, hg, hcs, hcur⟩ := hrow
      rw [Nat.mul_one] at hcs
      simp only [Nat.mul_one] at hcur hF hQF
      by_cases hroom : n + m ≤ cap
      · have hst := run_storeCells_at P g n e (Builtin.zeroCells #[z] m).toList 0 cur w hg (by simp [size_zeroCells]; omega) (fun u hu => by
          have hu' : u ∈ Builtin.zeroCells #[z] m := by simpa using hu
          obtain ⟨j, hj, rfl⟩ := Array.mem_iff_getElem.1 hu'
          have hj' : j < m := by simpa [size_zeroCells] using hj
          have h2 := zeros_get (z := z) hj'
          rw [Array.getElem?_eq_getElem hj] at h2
          rw [Option.some.inj h2]; exact h1z)
        simp only [Nat.add_zero, Array.length_toList, size_zeroCells, List.size_toArray, List.length_cons, List.length_nil, Nat.zero_add, Nat.mul_one] at hst
        have hr : (Builtin.append_ #[t, tn] ty #[.slice (some ⟨g, 0, none⟩) n cap, .int kq (m : Int)]).run P w = .ok (.slice (some ⟨g, 0, none⟩) (n + m) cap) (w.setRow g (cur.toList.take n ++ (Builtin.zeroCells #[z] m).toList ++ cur.toList.drop (n + m)).toArray) := by
          simp [Builtin.append_, run_underlying ht, run_underlying htn, sizeOf, typeInfo, zeroValue, hi, hz, asInt, asIntOf, hw, hm, hneg, hsize, hby, h48i, hroom, hz1, Addr.add_lit, hst]
        have hmin : min n cap = n := by omega
        refine ⟨_, _, hr, .inr ⟨g, cap, fun j => if j < n then fr j else if j < n + m then z else fr j, rfl, hbg, hroom, hcm, ⟨_, setRow_heap w g cur _ e _ hg, ?_, fun j hj => ?_⟩, fun j hj => ?_, fun j hj => ?_⟩, ⟨rfl, rfl, rfl, by simp, fun k _ hk => setRow_other w g k _ (fun e => hk (by simp [Value.ownBlock, e]))⟩, .inl rfl⟩
        · simp only [List.size_toArray, List.length_append, List.length_take, List.length_drop, Array.length_toList, hcs, size_zeroCells]
          simp
          omega
        · rw [Nat.mul_one] at hj
          simp only [List.getElem?_toArray]
          by_cases hj1 : j < n
          · rw [if_pos hj1, List.append_assoc, List.getElem?_append_left (by simp only [List.length_take, Array.length_toList, hcs, hmin]; exact hj1), List.getElem?_take, if_pos hj1]
            simpa using hcur j hj
          · rw [if_neg hj1]
            by_cases hj2 : j < n + m
            · rw [if_pos hj2, List.getElem?_append_left (by simp [hcs, size_zeroCells, hmin]; omega), List.getElem?_append_right (by simp only [List.length_take, Array.length_toList, hcs, hmin]; omega)]
              simp only [List.length_take, Array.length_toList, hcs, hmin, Array.getElem?_toList]
              exact zeros_get (by omega)
            · rw [if_neg hj2, List.getElem?_append_right (by simp [hcs, size_zeroCells, hmin]; omega)]
              simp only [List.length_append, List.length_take, Array.length_toList, hcs, List.getElem?_drop, size_zeroCells, hmin, List.size_toArray, List.length_cons, List.length_nil, Nat.zero_add, Nat.mul_one]
              rw [show n + m + (j - (n + m)) = j by omega]
              simpa using hcur j hj
        · rw [Nat.mul_one] at hj
          by_cases hj1 : j < n
          · simp only [after]; rw [if_pos hj1, if_pos hj1]; exact hF j hj1
          · simp only [after]; rw [if_neg hj1, if_neg hj1, if_pos hj]
        · rw [Nat.mul_one] at hj
          by_cases hj1 : j < n
          · show Q (if _ then _ else _); rw [if_pos hj1]; exact hQF j hj
          · show Q (if _ then _ else _); rw [if_neg hj1]
            by_cases hj2 : j < n + m
            · rw [if_pos hj2]; exact hQz
            · rw [if_neg hj2]; exact hQF j hj
      · have hxs : ∀ j, j < n → (rng n F)[j]? = some (F j) := fun j hj => rng_get hj
        have holds : ∀ j u, (rng n F)[j]? = some u → w.drew.cell? ((⟨g, 0, none⟩ : Addr).add j) = some u := by
          intro j u hu
          obtain ⟨hj, rfl⟩ := rng_some hu
          have h2 : w.cell? ((⟨g, 0, none⟩ : Addr).add j) = some (F j) := by rw [Addr.add_lit, Nat.zero_add, cell_of_row w g j cur e (0, 0) hg, hcur j (by omega), hF j hj]
          exact h2
        have hfc := run_firstCells_some (P := P) w.drew i.size n ⟨g, 0, none⟩ n cap (rng n F) (by rw [length_rng, hsize, Nat.mul_one]) holds
        have hr := Lib.run_append_grow_zeros (P := P) w t tn ty e i z kq kn ht htn hi hz (some ⟨g, 0, none⟩) n cap _ hfc m (by omega) (by omega) (by omega) (by omega) (by rw [hby]; omega) (growslice_fits (by omega) (by rw [hby]; omega))
        have hgr := grown cap _ (length_rng _ _) hxs (fun j hj => by rw [← hF j hj]; exact hQF j (by omega)) (Value.ownBlock (.slice (some ⟨g, 0, none⟩) n cap))
        rw [hz1] at hr
        exact ⟨_, _, hr, hgr.1, hgr.2, .inr rfl⟩
end
end Go.Proofs.YtlnkdnmeikpckaaGreat
namespace Go.Proofs.YtlnkdnmeikpckaaGreat.M19
open Go.RowKit
set_option maxRecDepth 100000
section
variable {w : World} {rb base N : Nat} {mn mx : Int} {bd : Bool} {lv : Value} {f : Nat → UInt8}
end
section
variable {w : World} {rb base N : Nat} {mn mx : Int} {bd : Bool} {lv : Value} {f : Nat → UInt8}
set_option maxHeartbeats 800000 in
theorem rgrow_no (k : Nat) (hm : RMemAt w rb base N mn mx bd lv f) (hN : N ≤ 1048576) (hk : k ≤ 4294967295) (h3 : 0 ≤ mx) (h4 : mx ≤ 4294967295) (hf : growB N k mx bd = false) :
    Calls Tryz.prog 117 #[.pointer (some ⟨rb, 0, none⟩), .int .u32 (k : Int)] w fun e w' => e = .returned (.int .u32 4294967295) ∧ w = w' := by
  obtain ⟨A, c, rfl, _, _, _⟩ := hm.own.out
  have c1 := hm.c1
  have c2 := hm.c2
  have c3 := hm.c3
  obtain ⟨P, hP⟩ : ∃ P : Nat, N / 65536 = P := ⟨_, rfl⟩
  unfold growB at hf
  rw [hP] at hf
  have eq0 : (N : Int) / 65536 = (P : Int) := by omega
  have e1 : IntKind.u64.wrap (P : Int) = (P : Int) := IntWalk.u64_in _ (by omega)
  have e2 : IntKind.u64.wrap (k : Int) = (k : Int) := IntWalk.u64_in _ (by omega)
  have e3 : IntKind.u64.wrap ((P : Int) + (k : Int)) = (P : Int) + (k : Int) := IntWalk.u64_in _ (by omega)
  have e4 : IntKind.u64.wrap mx = mx := IntWalk.u64_in _ (by omega)
  have hg2 : decide ((16 : Int) < (P : Int) + (k : Int)) = true ∨ (decide ((16 : Int) < (P : Int) + (k : Int)) = false ∧ bd = true ∧ decide (mx < (P : Int) + (k : Int)) = true) := by
    by_cases h : P + k ≤ 16
    · refine .inr ⟨decide_eq_false (by omega), ?_⟩
      rw [decide_eq_true h] at hf
      simp at hf
      exact ⟨hf.1, decide_eq_true (by omega)⟩
    · exact .inl (decide_eq_true (by omega))
  have HP := Lib.hid hP
  clear hm hP hf
  rcases hg2 with g1 | ⟨g1, rfl, g2⟩
  all_goals
    go_enter Tryz.func117, Tryz.ntmps117
    go_wp2_with fail
    go_ret
    exact ⟨rfl, rfl⟩
set_option maxHeartbeats 1600000 in
theorem rgrow_yes (P k : Nat) (hm : RMemAt w rb base (P * 65536) mn mx bd lv f) (hP16 : P ≤ 16) (hb : base ≤ w.heap.size) (hk : k ≤ 4294967295) (h3 : 0 ≤ mx) (h4 : mx ≤ 4294967295) (hf : growB (P * 65536) k mx bd = true) :
    Calls Tryz.prog 117 #[.pointer (some ⟨rb, 0, none⟩), .int .u32 (k : Int)] w fun e w' => e = .returned (.int .u32 (P : Int)) ∧ ∃ lj, RMemAt w' rb base ((P + k) * 65536) mn mx bd lj (moreF f (P * 65536)) ∧ Kept (ST rb lv) w w' ∧ (lj.ownBlock = lv.ownBlock ∨ ∃ g, lj.ownBlock = some g ∧ w.heap.size ≤ g) := by
  obtain ⟨A, c, hlv, _, _, _⟩ := hm.own.out
  have c1 := hm.c1
  have c2 := hm.c2
  have c3 := hm.c3
  rw [hlv] at c3
  unfold growB at hf
  rw [Nat.mul_div_cancel P (by omega : 0 < 65536)] at hf
  have hsum : P + k ≤ 16 := by
    by_cases h : P + k ≤ 16
    · exact h
    · rw [decide_eq_false h] at hf; simp at hf
  obtain ⟨N, hN⟩ : ∃ N : Nat, N = P * 65536 := ⟨_, rfl⟩
  obtain ⟨M, hM⟩ : ∃ M : Nat, M = k * 65536 := ⟨_, rfl⟩
  rw [← hN] at hm c3 hlv ⊢
  have eq0 : (N : Int) / 65536 = (P : Int) := by omega
  have e1 : IntKind.u64.wrap (P : Int) = (P : Int) := IntWalk.u64_in _ (by omega)
  have e2 : IntKind.u64.wrap (k : Int) = (k : Int) := IntWalk.u64_in _ (by omega)
  have e3 : IntKind.u64.wrap ((P : Int) + (k : Int)) = (P : Int) + (k : Int) := IntWalk.u64_in _ (by omega)
  have e4 : IntKind.u64.wrap mx = mx := IntWalk.u64_in _ (by omega)
  have e5 : IntKind.i64.wrap (k : Int) = (k : Int) := IntWalk.i64_in _ (by omega)
  have e6 : IntKind.i64.wrap (65536 * (k : Int)) = (M : Int) := by rw [IntWalk.i64_in _ (by omega)]; omega
  have e7 : IntKind.u32.wrap (P : Int) = (P : Int) := IntWalk.u32_in _ (by omega)
  have g1' : decide ((16 : Int) < (P : Int) + (k : Int)) = false := decide_eq_false (by omega)
  have hg2 : bd = false ∨ (bd = true ∧ decide (mx < (P : Int) + (k : Int)) = false) := by
    cases bd with
    | false => exact .inl rfl
    | true =>
      refine .inr ⟨rfl, decide_eq_false ?_⟩
      simp at hf
      omega
  obtain ⟨i, hi, hzz⟩ := Option.map_eq_some_iff.1 Tryz.info5
  simp only [Prod.mk.injEq] at hzz
  have hap := run_append_zeros (P := Tryz.prog) w base 71 3 71 5 i (.int .u8 0) .i64 .i64 Tryz.underlying71 Tryz.underlying3 hi hzz.1 hzz.2.1 hzz.2.2 rfl rfl IsByte ⟨0, rfl⟩ lv N (byteV f) hm.own M (by unfold maxLen; omega) (by omega) hb
  obtain ⟨v', w', hr, ho, hgr, hbl⟩ := hap
  rw [hlv] at hr
  obtain ⟨A', c', hv', _, _, _⟩ := ho.out
  have hB5 := hgr.block rb hm.obj.lt (fun e => hm.ne e.symm)
  have hB6 : Blk w' rb 193 _ := hB5.trans hm.obj
  have d3 := hB6.cell 3
  have d4 := hB6.frozen 3
  have hne2 := ho.ne_blk hB6 (by decide)
  have hfin : RMemAt (w'.setCell ⟨rb, 3, none⟩ v') rb base ((P + k) * 65536) mn mx bd v' (moreF f N) := by
    refine ⟨hB6.set_ 3 _, ?_, hm.lo⟩
    have h2 := ho.kept ((Kept.refl (S1 rb) w').setCell (p := ⟨rb, 3, none⟩) (.inl rfl) v') (fun g hg e => hne2 (by rw [hg]; exact congrArg some e))
    rw [show (P + k) * 65536 = N + M by omega]
    exact h2.congr (fun i hi => by
      unfold after byteV moreF
      by_cases e : i < N
      · rw [if_pos e, if_pos e]
      · rw [if_neg e, if_neg e]; rfl)
  have hkW : Kept (ST rb lv) w (w'.setCell ⟨rb, 3, none⟩ v') := (((Kept.refl (ST rb lv) w).grown hgr (fun g hg => .inl (.inr hg)))).setCell (p := ⟨rb, 3, none⟩) (.inl (.inl rfl)) _
  have HFIN := Lib.hid hfin
  have HKW := Lib.hid hkW
  have HBL := Lib.hid hbl
  have HM := Lib.hid hM
  have HN := Lib.hid hN
  have HR := Lib.hid hr
  subst hv'
  clear hm hf hN hM hlv hi hzz hr ho hgr hbl hB5 hB6 hne2 hfin hkW
  rcases hg2 with rfl | ⟨rfl, g2⟩
  all_goals
    go_enter Tryz.func117, Tryz.ntmps117
    go_wp2_with (at_builtin; refine Lib.wpList_append_run _ rfl (.tmp 41) (.tmp 44) 71 3 rfl _ _ rfl rfl _ _ HR.out ?_)
    go_wp2_with fail
    go_ret
    exact ⟨rfl, _, HFIN.out, HKW.out, HBL.out.imp id (fun h => ⟨_, h, Nat.le_refl _⟩)⟩
end
end Go.Proofs.YtlnkdnmeikpckaaGreat.M19
namespace Go.Proofs.YtlnkdnmeikpckaaGreat.M19
open Go.RowKit
set_option maxRecDepth 100000
section
variable {w w1 w2 : World} {B pb bb rb bb' : Nat} {mn mx : Int} {bd : Bool} {lr lr' : Value} {P P' : Nat} {f f' : Nat → UInt8}
end
section
variable {w : World} {pb bb rb B N : Nat} {mn mx : Int} {bd : Bool} {lr : Value} {f : Nat → UInt8}
end
/-- What Grow answers, and how many pages there are then. -/
def gwV (P k : Nat) (mx : Int) (bd : Bool) : Int := if growB (P * 65536) k mx bd = true then (P : Int) else 4294967295
def gwP (P k : Nat) (mx : Int) (bd : Bool) : Nat := if growB (P * 65536) k mx bd = true then P + k else P
section
variable {w : World} {pb bb rb B P : Nat} {mn mx : Int} {bd : Bool} {lr : Value} {f : Nat → UInt8}
theorem moreF_cong (f : Nat → UInt8) (N : Nat) : ∀ i, i < N → f i = moreF f N i := fun i hi => by unfold moreF; rw [if_pos hi]
theorem grow_is (k : Nat) (h : MemAt w pb bb (P * 65536) mn mx bd f) (hP : P ≤ 16) (hk : k ≤ 4294967295) (h3 : 0 ≤ mx) (h4 : mx ≤ 4294967295) :
    Calls Tryz.prog 116 #[.pointer (some ⟨pb, 0, none⟩), .int .u32 (k : Int)] w fun e w' => e = .returned (.tuple #[.int .u32 (gwV P k mx bd), .int .i64 0]) ∧ ∃ b2, MemAt w' pb b2 (gwP P k mx bd * 65536) mn mx bd (moreF f (P * 65536)) ∧ (b2 = bb ∨ w.heap.size ≤ b2) ∧ Kept (S1 pb) w w' := by
  unfold gwV gwP
  cases hg : growB (P * 65536) k mx bd with
  | true =>
    refine (grow_yes pb bb P k mn mx bd f w h hP hk h3 h4 hg).mono ?_
    rintro e w1 ⟨rfl, b2, hm, hl, hk⟩
    simp only [if_true]
    exact ⟨trivial, b2, hm, .inr hl, hk⟩
  | false =>
    refine (grow_no pb bb (P * 65536) k mn mx bd f w h (by omega) hk h3 h4 hg).mono ?_
    rintro e w1 ⟨rfl, rfl⟩
    simp only [Bool.false_eq_true, if_false]
    exact ⟨trivial, bb, h.congr (moreF_cong f _), .inl rfl, Kept.refl _ _⟩
theorem rgrow_is (k : Nat) (h : RMemAt w rb B (P * 65536) mn mx bd lr f) (hP : P ≤ 16) (hB : B ≤ w.heap.size) (hk : k ≤ 4294967295) (h3 : 0 ≤ mx) (h4 : mx ≤ 4294967295) :
    Calls Tryz.prog 117 #[.pointer (some ⟨rb, 0, none⟩), .int .u32 (k : Int)] w fun e w' => e = .returned (.int .u32 (gwV P k mx bd)) ∧ ∃ lj, RMemAt w' rb B (gwP P k mx bd * 65536) mn mx bd lj (moreF f (P * 65536)) ∧ Kept (ST rb lr) w w' ∧ (lj.ownBlock = lr.ownBlock ∨ ∃ g, lj.ownBlock = some g ∧ w.heap.size ≤ g) := by
  unfold gwV gwP
  cases hg : growB (P * 65536) k mx bd with
  | true =>
    refine (rgrow_yes P k h hP hB hk h3 h4 hg).mono ?_
    rintro e w1 ⟨rfl, lj, hm, hk, hl⟩
    simp only [if_true]
    exact ⟨trivial, lj, hm, hk, hl⟩
  | false =>
    refine (rgrow_no k h (by omega) hk h3 h4 hg).mono ?_
    rintro e w1 ⟨rfl, rfl⟩
    simp only [Bool.false_eq_true, if_false]
    exact ⟨trivial, lr, h.congr (moreF_cong f _), Kept.refl _ _, .inl rfl⟩
theorem gwP_le {P k : Nat} {mx : Int} {bd : Bool} (hP : P ≤ 16) : gwP P k mx bd ≤ 16 := by
  unfold gwP
  cases hg : growB (P * 65536) k mx bd with
  | true =>
    unfold growB at hg
    simp at hg
    simp only [if_true]
    omega
  | false => simp only [Bool.false_eq_true, if_false]; exact hP
end
end Go.Proofs.YtlnkdnmeikpckaaGreat.M19
namespace Go.Proofs.YtlnkdnmeikpckaaGreat
open Go.RowKit
set_option maxRecDepth 100000
/-- What tab.New answers. -/
def newTE (el mn mx : Int) (bd : Bool) (x : V3) : Int := if T20.mayTabB el mn mx bd = true ∧ T20.fitB x.t x.lo x.hi el = true then (if mn ≤ 16384 then 0 else 3) else 2
section
variable (el mn mx : Int) (bd : Bool) (x : V3) (w : World)
theorem tnew_bad (h1 : 0 ≤ mn) (h2 : mn ≤ 4294967295) (h3 : 0 ≤ mx) (h4 : mx ≤ 4294967295) (hE : newTE el mn mx bd x ≠ 0) :
    Calls Tryz.prog 88 #[.agg #[.int .u8 el, .int .u32 mn, .int .u32 mx, .bool bd], .agg #[.int .u8 x.t, .int .u64 x.lo, .int .u64 x.hi]] w fun e w' => e = .returned (.tuple #[.pointer none, .int .i64 (newTE el mn mx bd x)]) ∧ Kept S0 w w' := by
  unfold newTE at hE ⊢
  by_cases h : T20.mayTabB el mn mx bd = true ∧ T20.fitB x.t x.lo x.hi el = true
  · rw [if_pos h] at hE ⊢
    by_cases hm : mn ≤ 16384
    · rw [if_pos hm] at hE; exact absurd rfl hE
    · rw [if_neg hm]
      exact T20.newtab_limit el mn mx x.t x.lo x.hi bd w (by omega) h2 h3 h4 h.1 h.2
  · rw [if_neg h]
    refine T20.newtab_arg el mn mx x.t x.lo x.hi bd w h1 h2 h3 h4 ?_
    cases hh : T20.mayTabB el mn mx bd with
    | false => exact .inl rfl
    | true =>
      cases hf : T20.fitB x.t x.lo x.hi el with
      | false => exact .inr rfl
      | true => exact absurd ⟨hh, hf⟩ h
theorem rtnew_bad (h1 : 0 ≤ mn) (h2 : mn ≤ 4294967295) (h3 : 0 ≤ mx) (h4 : mx ≤ 4294967295) (hE : newTE el mn mx bd x ≠ 0) :
    Calls Tryz.prog 90 #[.agg #[.int .u8 el, .int .u32 mn, .int .u32 mx, .bool bd], .agg #[.int .u8 x.t, .int .u64 x.lo, .int .u64 x.hi]] w fun e w' => e = .returned (.tuple #[.pointer none, .int .i64 (newTE el mn mx bd x)]) ∧ Kept S0 w w' := by
  unfold newTE at hE ⊢
  by_cases h : T20.mayTabB el mn mx bd = true ∧ T20.fitB x.t x.lo x.hi el = true
  · rw [if_pos h] at hE ⊢
    by_cases hm : mn ≤ 16384
    · rw [if_pos hm] at hE; exact absurd rfl hE
    · rw [if_neg hm]
      exact T20.rnew_limit el mn mx x.t x.lo x.hi bd w (by omega) h2 h3 h4 h.1 h.2
  · rw [if_neg h]
    refine T20.rnew_arg el mn mx x.t x.lo x.hi bd w h1 h2 h3 h4 ?_
    cases hh : T20.mayTabB el mn mx bd with
    | false => exact .inl rfl
    | true =>
      cases hf : T20.fitB x.t x.lo x.hi el with
      | false => exact .inr rfl
      | true => exact absurd ⟨hh, hf⟩ h
theorem tnew_ok (hE : newTE el mn mx bd x = 0) : T20.mayTabB el mn mx bd = true ∧ T20.fitB x.t x.lo x.hi el = true ∧ mn ≤ 16384 := by
  unfold newTE at hE
  by_cases h : T20.mayTabB el mn mx bd = true ∧ T20.fitB x.t x.lo x.hi el = true
  · rw [if_pos h] at hE
    by_cases hm : mn ≤ 16384
    · exact ⟨h.1, h.2, hm⟩
    · rw [if_neg hm] at hE; cases hE
  · rw [if_neg h] at hE; cases hE
end
/-- What mem.New answers. -/
def newME (mn mx : Int) (bd : Bool) : Int := if mayB mn mx bd 65536 = true then (if mn ≤ 16 then 0 else 3) else 2
section
variable (mn mx : Int) (bd : Bool) (w : World)
theorem mnew_bad (h1 : 0 ≤ mn) (h2 : mn ≤ 4294967295) (h3 : 0 ≤ mx) (h4 : mx ≤ 4294967295) (hE : newME mn mx bd ≠ 0) :
    Calls Tryz.prog 91 #[.agg #[.int .u32 mn, .int .u32 mx, .bool bd]] w fun e w' => e = .returned (.tuple #[.pointer none, .int .i64 (newME mn mx bd)]) ∧ Kept S0 w w' := by
  unfold newME at hE ⊢
  by_cases h : mayB mn mx bd 65536 = true
  · rw [if_pos h] at hE ⊢
    by_cases hm : mn ≤ 16
    · rw [if_pos hm] at hE; exact absurd rfl hE
    · rw [if_neg hm]
      exact M19.new_limit mn mx bd w (by omega) h2 h3 h4 h
  · rw [if_neg h]
    exact M19.new_arg mn mx bd w h1 h2 h3 h4 (by simpa using h)
theorem rmnew_bad (h1 : 0 ≤ mn) (h2 : mn ≤ 4294967295) (h3 : 0 ≤ mx) (h4 : mx ≤ 4294967295) (hE : newME mn mx bd ≠ 0) :
    Calls Tryz.prog 93 #[.agg #[.int .u32 mn, .int .u32 mx, .bool bd]] w fun e w' => e = .returned (.tuple #[.pointer none, .int .i64 (newME mn mx bd)]) ∧ Kept S0 w w' := by
  unfold newME at hE ⊢
  by_cases h : mayB mn mx bd 65536 = true
  · rw [if_pos h] at hE ⊢
    by_cases hm : mn ≤ 16
    · rw [if_pos hm] at hE; exact absurd rfl hE
    · rw [if_neg hm]
      exact M19.rnew_limit mn mx bd w (by omega) h2 h3 h4 h
  · rw [if_neg h]
    exact M19.rnew_arg mn mx bd w h1 h2 h3 h4 (by simpa using h)
theorem mnew_ok (hE : newME mn mx bd = 0) : mayB mn mx bd 65536 = true ∧ mn ≤ 16 := by
  unfold newME at hE
  by_cases h : mayB mn mx bd 65536 = true
  · rw [if_pos h] at hE
    by_cases hm : mn ≤ 16
    · exact ⟨h, hm⟩
    · rw [if_neg hm] at hE; cases hE
  · rw [if_neg h] at hE; cases hE
end
/-- May a global be so? -/
def globB (gt : Int) (x : V3) : Bool := (x.t == gt) && hasB x.t x.lo x.hi
section
variable {w : World} {sb B n : Nat} {fl tl ml gl el' dl il : Value} {F : Nat → Value}
set_option maxRecDepth 100000 in
set_option maxHeartbeats 1600000 in
theorem addtable_err (el mn mx : Int) (bd : Bool) (x : V3) (hb : Blk w sb 132 (stCells fl tl ml gl el' dl il)) (hown : Own w B 55 1 AnyV tl n F) (hn : n < 256) (h1 : 0 ≤ mn) (h2 : mn ≤ 4294967295) (h3 : 0 ≤ mx) (h4 : mx ≤ 4294967295) (hE : newTE el mn mx bd x ≠ 0) :
    Calls Tryz.prog 61 #[.pointer (some ⟨sb, 0, none⟩), .agg #[.int .u8 el, .int .u32 mn, .int .u32 mx, .bool bd], .agg #[.int .u8 x.t, .int .u64 x.lo, .int .u64 x.hi]] w fun e w' => e = .returned (.tuple #[.int .i64 0, .int .i64 (newTE el mn mx bd x)]) ∧ Kept S0 w w' := by
  have HNB := Lib.hid (fun w => tnew_bad el mn mx bd x w h1 h2 h3 h4 hE)
  have hne : (newTE el mn mx bd x != 0) = true := bne_iff_ne.2 hE
  clear hE
  obtain ⟨lA, lc, hlv, _, _, _⟩ := hown.out
  subst hlv
  have hka : Kept S0 w ((w.alloc (.cells #[.int .u8 el, .int .u32 mn, .int .u32 mx, .bool bd] 31)).alloc (.cells #[.int .u8 x.t, .int .u64 x.lo, .int .u64 x.hi] 65)) := (((Kept.refl S0 w).alloc _).alloc _)
  have hb1 := hka.blk hb (fun x => x)
  have c0 : ((w.alloc (.cells #[.int .u8 el, .int .u32 mn, .int .u32 mx, .bool bd] 31)).alloc (.cells #[.int .u8 x.t, .int .u64 x.lo, .int .u64 x.hi] 65)).cell? ⟨sb, 0, none⟩ = some (.bool true) := hb1.cell 0
  have c1 : ((w.alloc (.cells #[.int .u8 el, .int .u32 mn, .int .u32 mx, .bool bd] 31)).alloc (.cells #[.int .u8 x.t, .int .u64 x.lo, .int .u64 x.hi] 65)).cell? ⟨sb, 2, none⟩ = some (.slice lA n lc) := hb1.cell 2
  have hB0 := (Blk.new w 31 #[.int .u8 el, .int .u32 mn, .int .u32 mx, .bool bd]).alloc (.cells #[.int .u8 x.t, .int .u64 x.lo, .int .u64 x.hi] 65)
  have hB1 := Blk.new1 w (.cells #[.int .u8 el, .int .u32 mn, .int .u32 mx, .bool bd] 31) 65 #[.int .u8 x.t, .int .u64 x.lo, .int .u64 x.hi]
  have d0 := hB0.cell 0
  have d1 := hB0.cell 1
  have d2 := hB0.cell 2
  have d3 := hB0.cell 3
  have e0 := hB1.cell 0
  have e1 := hB1.cell 1
  have e2 := hB1.cell 2
  clear hB0 hB1
  have HB1 := Lib.hid hb1
  have HO1 := Lib.hid (hown.kept hka (fun _ _ x => x))
  have HK := Lib.hid hka
  have hnn : decide ((256 : Int) ≤ (n : Int)) = false := decide_eq_false (by omega)
  clear hb hown hka hb1
  go_enter Tryz.func61, Tryz.ntmps61
  go_wp2_with fail
  refine (off_made _ _ c0).mono ?_
  rintro e w1 ⟨rfl, rfl⟩
  go_wp2_with fail
  refine (HNB.out _).mono ?_
  rintro e w2 ⟨rfl, hk2⟩
  have HK2 := Lib.hid (HK.out.then0 hk2)
  clear hk2
  go_wp2_with fail
  go_ret2
  exact ⟨rfl, HK2.out⟩
/-- What AddTable has done. -/
structure AddedT (w w' : World) (sb B n : Nat) (fl tl ml gl el' dl il : Value) (F : Nat → Value) (el mn mx : Int) (k : Nat) (bd : Bool) (x : V3) : Prop where
  ex : ∃ tb lv lv', Blk w' sb 132 (stCells fl lv' ml gl el' dl il) ∧ Own w' B 55 1 AnyV lv' (n + 1) (after n F (ecell #[.pointer (some ⟨tb, 0, none⟩)])) ∧ T20.TabAt w' tb w.heap.size k el mn mx bd lv (fun _ => x) ∧ (lv'.ownBlock = tl.ownBlock ∨ ∃ g, lv'.ownBlock = some g ∧ w.heap.size ≤ g)
  kept : Kept (ST sb tl) w w'
set_option maxRecDepth 100000 in
set_option maxHeartbeats 1600000 in
theorem addtable_new (el mx : Int) (k : Nat) (bd : Bool) (x : V3) (hb : Blk w sb 132 (stCells fl tl ml gl el' dl il)) (hown : Own w B 55 1 AnyV tl n F) (hn : n < 256) (hB : B ≤ w.heap.size) (h3 : 0 ≤ mx) (h4 : mx ≤ 4294967295) (hE : newTE el k mx bd x = 0) :
    Calls Tryz.prog 61 #[.pointer (some ⟨sb, 0, none⟩), .agg #[.int .u8 el, .int .u32 (k : Int), .int .u32 mx, .bool bd], .agg #[.int .u8 x.t, .int .u64 x.lo, .int .u64 x.hi]] w fun e w' => e = .returned (.tuple #[.int .i64 (n : Int), .int .i64 0]) ∧ AddedT w w' sb B n fl tl ml gl el' dl il F el k mx k bd x := by
  obtain ⟨m1, f1, l1⟩ := tnew_ok el k mx bd x hE
  have HNB := Lib.hid (fun w => T20.newtab_made el mx k bd x w (by omega) h3 h4 m1 f1)
  clear hE m1 f1 l1
  obtain ⟨lA, lc, hlv, _, _, _⟩ := hown.out
  subst hlv
  have hka : Kept S0 w ((w.alloc (.cells #[.int .u8 el, .int .u32 (k : Int), .int .u32 mx, .bool bd] 31)).alloc (.cells #[.int .u8 x.t, .int .u64 x.lo, .int .u64 x.hi] 65)) := (((Kept.refl S0 w).alloc _).alloc _)
  have hb1 := hka.blk hb (fun x => x)
  have c0 : ((w.alloc (.cells #[.int .u8 el, .int .u32 (k : Int), .int .u32 mx, .bool bd] 31)).alloc (.cells #[.int .u8 x.t, .int .u64 x.lo, .int .u64 x.hi] 65)).cell? ⟨sb, 0, none⟩ = some (.bool true) := hb1.cell 0
  have c1 : ((w.alloc (.cells #[.int .u8 el, .int .u32 (k : Int), .int .u32 mx, .bool bd] 31)).alloc (.cells #[.int .u8 x.t, .int .u64 x.lo, .int .u64 x.hi] 65)).cell? ⟨sb, 2, none⟩ = some (.slice lA n lc) := hb1.cell 2
  have hB0 := (Blk.new w 31 #[.int .u8 el, .int .u32 (k : Int), .int .u32 mx, .bool bd]).alloc (.cells #[.int .u8 x.t, .int .u64 x.lo, .int .u64 x.hi] 65)
  have hB1 := Blk.new1 w (.cells #[.int .u8 el, .int .u32 (k : Int), .int .u32 mx, .bool bd] 31) 65 #[.int .u8 x.t, .int .u64 x.lo, .int .u64 x.hi]
  have d0 := hB0.cell 0
  have d1 := hB0.cell 1
  have d2 := hB0.cell 2
  have d3 := hB0.cell 3
  have e0 := hB1.cell 0
  have e1 := hB1.cell 1
  have e2 := hB1.cell 2
  clear hB0 hB1
  have HB1 := Lib.hid hb1
  have HO1 := Lib.hid (hown.kept hka (fun _ _ x => x))
  have HK := Lib.hid hka
  have hnn : decide ((256 : Int) ≤ (n : Int)) = false := decide_eq_false (by omega)
  clear hb hown hka hb1
  go_enter Tryz.func61, Tryz.ntmps61
  go_wp2_with fail
  refine (off_made _ _ c0).mono ?_
  rintro e w1 ⟨rfl, rfl⟩
  go_wp2_with fail
  refine (HNB.out _).mono ?_
  rintro e w2 ⟨tb, lv, rfl, ht2, hk2⟩
  have HK2 := Lib.hid hk2
  have HT2 := Lib.hid ht2
  clear hk2 ht2
  go_wp2_with fail
  have hb2 := HK2.out.blk HB1.out (fun x => x)
  have ho2 := HO1.out.kept HK2.out (fun _ _ x => x)
  refine (add_TAB 2 (some ⟨tb, 0, none⟩) hb2 rfl ho2 (by omega) (by have h1 := HK.out.size; have h2 := HK2.out.size; omega)).mono ?_
  rintro e w3 ⟨rfl, lv', hb3, ho3, hk3, hl3⟩
  have hsz := HK.out.size
  have hsz2 := HK2.out.size
  have hlo := HT2.out.lo
  have hob := HO1.out.lt
  have hsb := HB1.out.lt
  have ht3 : T20.TabAt w3 tb w.heap.size k el k mx bd lv (fun _ => x) := by
    have h := HT2.out.kept hk3 (fun e => by
      rcases e with e | e
      · omega
      · have := (hob _ e).2; omega) (fun g hg e => by
      have := (HT2.out.own.lt g hg).1
      rcases e with e | e
      · omega
      · have := (hob _ e).2; omega)
    exact ⟨h.obj, h.own.mono hsz, by omega⟩
  have HFIN := Lib.hid (show AddedT w w3 sb B n fl (.slice lA n lc) ml gl el' dl il F el k mx k bd x from
    ⟨⟨tb, lv, lv', hb3, ho3, ht3, hl3.imp id (fun ⟨g, a, b⟩ => ⟨g, a, by omega⟩)⟩, ((HK.out.then0 HK2.out).of0 _).trans hk3⟩)
  clear hb2 ho2 hb3 ho3 hk3 hl3 ht3 hsz hsz2 hlo hob hsb
  go_wp2_with fail
  go_ret2
  exact ⟨rfl, HFIN.out⟩
set_option maxRecDepth 100000 in
set_option maxHeartbeats 1600000 in
theorem addmem_err (mn mx : Int) (bd : Bool) (hb : Blk w sb 132 (stCells fl tl ml gl el' dl il)) (hown : Own w B 59 1 AnyV ml n F) (hn : n < 256) (h1 : 0 ≤ mn) (h2 : mn ≤ 4294967295) (h3 : 0 ≤ mx) (h4 : mx ≤ 4294967295) (hE : newME mn mx bd ≠ 0) :
    Calls Tryz.prog 63 #[.pointer (some ⟨sb, 0, none⟩), .agg #[.int .u32 mn, .int .u32 mx, .bool bd]] w fun e w' => e = .returned (.tuple #[.int .i64 0, .int .i64 (newME mn mx bd)]) ∧ Kept S0 w w' := by
  have HNB := Lib.hid (fun w => mnew_bad mn mx bd w h1 h2 h3 h4 hE)
  have hne : (newME mn mx bd != 0) = true := bne_iff_ne.2 hE
  clear hE
  obtain ⟨lA, lc, hlv, _, _, _⟩ := hown.out
  subst hlv
  have hka : Kept S0 w (w.alloc (.cells #[.int .u32 mn, .int .u32 mx, .bool bd] 29)) := ((Kept.refl S0 w).alloc _)
  have hb1 := hka.blk hb (fun x => x)
  have c0 : (w.alloc (.cells #[.int .u32 mn, .int .u32 mx, .bool bd] 29)).cell? ⟨sb, 0, none⟩ = some (.bool true) := hb1.cell 0
  have c1 : (w.alloc (.cells #[.int .u32 mn, .int .u32 mx, .bool bd] 29)).cell? ⟨sb, 3, none⟩ = some (.slice lA n lc) := hb1.cell 3
  have hB0 := Blk.new w 29 #[.int .u32 mn, .int .u32 mx, .bool bd]
  have hB1 : True := trivial
  have d0 := hB0.cell 0
  have d1 := hB0.cell 1
  have d2 := hB0.cell 2
  clear hB0 hB1
  have HB1 := Lib.hid hb1
  have HO1 := Lib.hid (hown.kept hka (fun _ _ x => x))
  have HK := Lib.hid hka
  have hnn : decide ((256 : Int) ≤ (n : Int)) = false := decide_eq_false (by omega)
  clear hb hown hka hb1
  go_enter Tryz.func63, Tryz.ntmps63
  go_wp2_with fail
  refine (off_made _ _ c0).mono ?_
  rintro e w1 ⟨rfl, rfl⟩
  go_wp2_with fail
  refine (HNB.out _).mono ?_
  rintro e w2 ⟨rfl, hk2⟩
  have HK2 := Lib.hid (HK.out.then0 hk2)
  clear hk2
  go_wp2_with fail
  go_ret2
  exact ⟨rfl, HK2.out⟩
/-- What AddMem has done. -/
structure AddedM (w w' : World) (sb B n : Nat) (fl tl ml gl el' dl il : Value) (F : Nat → Value) (mx : Int) (k : Nat) (bd : Bool) : Prop where
  ex : ∃ pb bb lv', Blk w' sb 132 (stCells fl tl lv' gl el' dl il) ∧ Own w' B 59 1 AnyV lv' (n + 1) (after n F (ecell #[.pointer (some ⟨pb, 0, none⟩)])) ∧ M19.MemAt w' pb bb (k * 65536) k mx bd M19.zeroF ∧ w.heap.size ≤ pb ∧ w.heap.size ≤ bb ∧ (lv'.ownBlock = ml.ownBlock ∨ ∃ g, lv'.ownBlock = some g ∧ w.heap.size ≤ g)
  kept : Kept (ST sb ml) w w'
set_option maxRecDepth 100000 in
set_option maxHeartbeats 1600000 in
theorem addmem_new (mx : Int) (k : Nat) (bd : Bool) (hb : Blk w sb 132 (stCells fl tl ml gl el' dl il)) (hown : Own w B 59 1 AnyV ml n F) (hn : n < 256) (hB : B ≤ w.heap.size) (h3 : 0 ≤ mx) (h4 : mx ≤ 4294967295) (hE : newME k mx bd = 0) :
    Calls Tryz.prog 63 #[.pointer (some ⟨sb, 0, none⟩), .agg #[.int .u32 (k : Int), .int .u32 mx, .bool bd]] w fun e w' => e = .returned (.tuple #[.int .i64 (n : Int), .int .i64 0]) ∧ AddedM w w' sb B n fl tl ml gl el' dl il F mx k bd := by
  obtain ⟨m1, l1⟩ := mnew_ok k mx bd hE
  have HNB := Lib.hid (fun w => M19.new_made k mx bd w (by omega) h3 h4 m1)
  clear hE m1 l1
  obtain ⟨lA, lc, hlv, _, _, _⟩ := hown.out
  subst hlv
  have hka : Kept S0 w (w.alloc (.cells #[.int .u32 (k : Int), .int .u32 mx, .bool bd] 29)) := ((Kept.refl S0 w).alloc _)
  have hb1 := hka.blk hb (fun x => x)
  have c0 : (w.alloc (.cells #[.int .u32 (k : Int), .int .u32 mx, .bool bd] 29)).cell? ⟨sb, 0, none⟩ = some (.bool true) := hb1.cell 0
  have c1 : (w.alloc (.cells #[.int .u32 (k : Int), .int .u32 mx, .bool bd] 29)).cell? ⟨sb, 3, none⟩ = some (.slice lA n lc) := hb1.cell 3
  have hB0 := Blk.new w 29 #[.int .u32 (k : Int), .int .u32 mx, .bool bd]
  have hB1 : True := trivial
  have d0 := hB0.cell 0
  have d1 := hB0.cell 1
  have d2 := hB0.cell 2
  clear hB0 hB1
  have HB1 := Lib.hid hb1
  have HO1 := Lib.hid (hown.kept hka (fun _ _ x => x))
  have HK := Lib.hid hka
  have hnn : decide ((256 : Int) ≤ (n : Int)) = false := decide_eq_false (by omega)
  clear hb hown hka hb1
  go_enter Tryz.func63, Tryz.ntmps63
  go_wp2_with fail
  refine (off_made _ _ c0).mono ?_
  rintro e w1 ⟨rfl, rfl⟩
  go_wp2_with fail
  refine (HNB.out _).mono ?_
  rintro e w2 ⟨pb, bb, rfl, ht2, hpb, hbb, hk2⟩
  have HK2 := Lib.hid hk2
  have HT2 := Lib.hid ht2
  clear hk2 ht2
  go_wp2_with fail
  have hb2 := HK2.out.blk HB1.out (fun x => x)
  have ho2 := HO1.out.kept HK2.out (fun _ _ x => x)
  refine (add_MEM 3 (some ⟨pb, 0, none⟩) hb2 rfl ho2 (by omega) (by have h1 := HK.out.size; have h2 := HK2.out.size; omega)).mono ?_
  rintro e w3 ⟨rfl, lv', hb3, ho3, hk3, hl3⟩
  have hsz := HK.out.size
  have hsz2 := HK2.out.size
  have hob := HO1.out.lt
  have hsb := HB1.out.lt
  have ht3 : M19.MemAt w3 pb bb (k * 65536) k mx bd M19.zeroF := HT2.out.kept hk3 (fun e => by
      rcases e with e | e
      · omega
      · have := (hob _ e).2; omega) (fun e => by
      rcases e with e | e
      · omega
      · have := (hob _ e).2; omega)
  have HFIN := Lib.hid (show AddedM w w3 sb B n fl tl (.slice lA n lc) gl el' dl il F mx k bd from
    ⟨⟨pb, bb, lv', hb3, ho3, ht3, by omega, by omega, hl3.imp id (fun ⟨g, a, b⟩ => ⟨g, a, by omega⟩)⟩, ((HK.out.then0 HK2.out).of0 _).trans hk3⟩)
  clear hb2 ho2 hb3 ho3 hk3 hl3 ht3 hsz hsz2 hob hsb hpb hbb
  go_wp2_with fail
  go_ret2
  exact ⟨rfl, HFIN.out⟩
set_option maxRecDepth 100000 in
set_option maxHeartbeats 1600000 in
theorem addglob_err (gt : Int) (gm : Bool) (x : V3) (hx : 0 ≤ x.lo ∧ x.lo ≤ 18446744073709551615) (hb : Blk w sb 132 (stCells fl tl ml gl el' dl il)) (hown : Own w B 149 5 AnyV gl n F) (hn : n < 65536) (hE : globB gt x = false) :
    Calls Tryz.prog 65 #[.pointer (some ⟨sb, 0, none⟩), .agg #[.int .u8 gt, .bool gm], .agg #[.int .u8 x.t, .int .u64 x.lo, .int .u64 x.hi]] w fun e w' => e = .returned (.tuple #[.int .i64 0, .int .i64 2]) ∧ Kept S0 w w' := by
  obtain ⟨xt, xl, xh⟩ := x
  dsimp only at hx
  have HHAS := Lib.hid (fun w => has_any xt xl xh w hx.1 hx.2)
  have HE := Lib.hid hE
  clear hE
  obtain ⟨lA, lc, hlv, _, _, _⟩ := hown.out
  subst hlv
  have hka : Kept S0 w ((w.alloc (.cells #[.int .u8 gt, .bool gm] 33)).alloc (.cells #[.int .u8 xt, .int .u64 xl, .int .u64 xh] 65)) := (((Kept.refl S0 w).alloc _).alloc _)
  have hb1 := hka.blk hb (fun x => x)
  have c0 : ((w.alloc (.cells #[.int .u8 gt, .bool gm] 33)).alloc (.cells #[.int .u8 xt, .int .u64 xl, .int .u64 xh] 65)).cell? ⟨sb, 0, none⟩ = some (.bool true) := hb1.cell 0
  have c1 : ((w.alloc (.cells #[.int .u8 gt, .bool gm] 33)).alloc (.cells #[.int .u8 xt, .int .u64 xl, .int .u64 xh] 65)).cell? ⟨sb, 4, none⟩ = some (.slice lA n lc) := hb1.cell 4
  have hB0 := (Blk.new w 33 #[.int .u8 gt, .bool gm]).alloc (.cells #[.int .u8 xt, .int .u64 xl, .int .u64 xh] 65)
  have hB1 := Blk.new1 w (.cells #[.int .u8 gt, .bool gm] 33) 65 #[.int .u8 xt, .int .u64 xl, .int .u64 xh]
  have d0 := hB0.cell 0
  have d1 := hB0.cell 1
  have e0 := hB1.cell 0
  have e1 := hB1.cell 1
  have e2 := hB1.cell 2
  clear hB0 hB1
  have HB1 := Lib.hid hb1
  have HO1 := Lib.hid (hown.kept hka (fun _ _ x => x))
  have HK := Lib.hid hka
  have hnn : decide ((65536 : Int) ≤ (n : Int)) = false := decide_eq_false (by omega)
  clear hb hown hka hb1
  go_enter Tryz.func65, Tryz.ntmps65
  go_wp2_with fail
  refine (off_made _ _ c0).mono ?_
  rintro e w1 ⟨rfl, rfl⟩
  cases ht : (xt == gt) with
  | false =>
    have htt : (xt != gt) = true := by unfold bne; rw [ht]; rfl
    clear ht
    go_wp2_with fail
    go_ret2
    exact ⟨rfl, HK.out⟩
  | true =>
    have htt : (xt != gt) = false := by unfold bne; rw [ht]; rfl
    have HH := Lib.hid (show hasB xt xl xh = false by have h := HE.out; unfold globB at h; dsimp only at h; rw [ht] at h; simpa using h)
    clear ht
    go_wp2_with fail
    refine (HHAS.out _).mono ?_
    rintro e w2 ⟨rfl, hk2⟩
    rw [HH.out]
    have HK2 := Lib.hid (HK.out.then0 hk2)
    clear hk2
    go_wp2_with fail
    go_ret2
    exact ⟨rfl, HK2.out⟩
/-- What AddGlobal has done. -/
structure AddedG (w w' : World) (sb B n : Nat) (fl tl ml gl el' dl il : Value) (F : Nat → Value) (gt : Int) (gm : Bool) (x : V3) : Prop where
  ex : ∃ lv', Blk w' sb 132 (stCells fl tl ml lv' el' dl il) ∧ Own w' B 149 5 AnyV lv' (n + 1) (after (n * 5) F (ecell #[.int .u8 gt, .bool gm, .int .u8 x.t, .int .u64 x.lo, .int .u64 x.hi])) ∧ (lv'.ownBlock = gl.ownBlock ∨ ∃ g, lv'.ownBlock = some g ∧ w.heap.size ≤ g)
  kept : Kept (ST sb gl) w w'
set_option maxRecDepth 100000 in
set_option maxHeartbeats 3200000 in
theorem addglob_new (gt : Int) (gm : Bool) (x : V3) (hx : 0 ≤ x.lo ∧ x.lo ≤ 18446744073709551615) (hb : Blk w sb 132 (stCells fl tl ml gl el' dl il)) (hown : Own w B 149 5 AnyV gl n F) (hn : n < 65536) (hB : B ≤ w.heap.size) (hE : globB gt x = true) :
    Calls Tryz.prog 65 #[.pointer (some ⟨sb, 0, none⟩), .agg #[.int .u8 gt, .bool gm], .agg #[.int .u8 x.t, .int .u64 x.lo, .int .u64 x.hi]] w fun e w' => e = .returned (.tuple #[.int .i64 (n : Int), .int .i64 0]) ∧ AddedG w w' sb B n fl tl ml gl el' dl il F gt gm x := by
  obtain ⟨xt, xl, xh⟩ := x
  dsimp only at hx
  have HHAS := Lib.hid (fun w => has_any xt xl xh w hx.1 hx.2)
  have hE2 : (xt == gt) = true ∧ hasB xt xl xh = true := by unfold globB at hE; simpa using hE
  have htt : (xt != gt) = false := by unfold bne; rw [hE2.1]; rfl
  have HH := Lib.hid hE2.2
  clear hE hE2
  obtain ⟨lA, lc, hlv, _, _, _⟩ := hown.out
  subst hlv
  have hka : Kept S0 w ((w.alloc (.cells #[.int .u8 gt, .bool gm] 33)).alloc (.cells #[.int .u8 xt, .int .u64 xl, .int .u64 xh] 65)) := (((Kept.refl S0 w).alloc _).alloc _)
  have hb1 := hka.blk hb (fun x => x)
  have c0 : ((w.alloc (.cells #[.int .u8 gt, .bool gm] 33)).alloc (.cells #[.int .u8 xt, .int .u64 xl, .int .u64 xh] 65)).cell? ⟨sb, 0, none⟩ = some (.bool true) := hb1.cell 0
  have c1 : ((w.alloc (.cells #[.int .u8 gt, .bool gm] 33)).alloc (.cells #[.int .u8 xt, .int .u64 xl, .int .u64 xh] 65)).cell? ⟨sb, 4, none⟩ = some (.slice lA n lc) := hb1.cell 4
  have hB0 := (Blk.new w 33 #[.int .u8 gt, .bool gm]).alloc (.cells #[.int .u8 xt, .int .u64 xl, .int .u64 xh] 65)
  have hB1 := Blk.new1 w (.cells #[.int .u8 gt, .bool gm] 33) 65 #[.int .u8 xt, .int .u64 xl, .int .u64 xh]
  have d0 := hB0.cell 0
  have d1 := hB0.cell 1
  have e0 := hB1.cell 0
  have e1 := hB1.cell 1
  have e2 := hB1.cell 2
  have HB0 := Lib.hid hB0
  have HB1 := Lib.hid hB1
  clear hB0 hB1
  have HBS := Lib.hid hb1
  have HO1 := Lib.hid (hown.kept hka (fun _ _ x => x))
  have HK := Lib.hid hka
  have hnn : decide ((65536 : Int) ≤ (n : Int)) = false := decide_eq_false (by omega)
  clear hb hown hka hb1
  go_enter Tryz.func65, Tryz.ntmps65
  go_wp2_with fail
  refine (off_made _ _ c0).mono ?_
  rintro e w1 ⟨rfl, rfl⟩
  go_wp2_with fail
  refine (HHAS.out _).mono ?_
  rintro e w2 ⟨rfl, hk2⟩
  rw [HH.out]
  have hk2d := hk2.drew
  have y0 := keep0 hk2d d0
  have y1 := keep0 hk2d d1
  have z0 := keep0 hk2d e0
  have z1 := keep0 hk2d e1
  have z2 := keep0 hk2d e2
  have HK2 := Lib.hid hk2d
  clear hk2 hk2d d0 d1 e0 e1 e2 c0 c1
  go_wp2_with fail
  generalize hbx : w.heap.size = bx at *
  refine wp_region_R (fun w' => w'.cell? ⟨bx, 0, none⟩ = some (.int .u8 gt) ∧ w'.cell? ⟨bx, 1, none⟩ = some (.bool gm) ∧ w'.cell? ⟨bx + 1, 0, none⟩ = some (.int .u8 xt) ∧ w'.cell? ⟨bx + 1, 1, none⟩ = some (.int .u64 xl) ∧ w'.cell? ⟨bx + 1, 2, none⟩ = some (.int .u64 xh)) [] (by kernel_rfl) ?_
  generalize w2.drew = w3 at *
  have hS : w3.cell? ⟨bx, 0, none⟩ = some (.int .u8 gt) ∧ w3.cell? ⟨bx, 1, none⟩ = some (.bool gm) ∧ w3.cell? ⟨bx + 1, 0, none⟩ = some (.int .u8 xt) ∧ w3.cell? ⟨bx + 1, 1, none⟩ = some (.int .u64 xl) ∧ w3.cell? ⟨bx + 1, 2, none⟩ = some (.int .u64 xh) := ⟨y0, y1, z0, z1, z2⟩
  (first | (refine tkR 0 (v := ?_) rfl hS ⟨by rfl, ?_⟩ ?_; rotate_left; intro w h; (try dsimp only at h); first | (go_simp; done) | (go_simp; with_reducible rfl)) | refine skR 0 rfl (fun _ => hS) (by rfl) ?_); simp only [zq1, zq2, Act.put, zq4, zq5, zq6]
  (first | (refine tkR 1 (v := ?_) rfl hS ⟨by rfl, ?_⟩ ?_; rotate_left; intro w h; (try dsimp only at h); first | (go_simp; done) | (go_simp; with_reducible rfl)) | refine skR 1 rfl (fun _ => hS) (by rfl) ?_); simp only [zq1, zq2, zq3, Act.put, zq4, zq5, zq6]
  (first | (refine tkR 2 (v := ?_) rfl hS ⟨by rfl, ?_⟩ ?_; rotate_left; intro w h; (try dsimp only at h); first | (go_simp; done) | (go_simp; with_reducible rfl)) | refine skR 2 rfl (fun _ => hS) (by rfl) ?_); simp only [zq1, zq2, zq3, Act.put, zq4, zq5, zq6]
  (first | (refine tkR 3 (v := ?_) rfl hS ⟨by rfl, ?_⟩ ?_; rotate_left; intro w h; (try dsimp only at h); first | (go_simp; done) | (go_simp; with_reducible rfl)) | refine skR 3 rfl (fun _ => hS) (by rfl) ?_); simp only [zq1, zq2, zq3, Act.put, zq4, zq5, zq6]
  (first | (refine tkR 4 (v := ?_) rfl hS ⟨by rfl, ?_⟩ ?_; rotate_left; intro w h; (try dsimp only at h); first | (go_simp; done) | (go_simp; with_reducible rfl)) | refine skR 4 rfl (fun _ => hS) (by rfl) ?_); simp only [zq1, zq2, zq3, Act.put, zq4, zq5, zq6]
  (first | (refine tkR 5 (v := ?_) rfl hS ⟨by rfl, ?_⟩ ?_; rotate_left; intro w h; (try dsimp only at h); first | (go_simp; done) | (go_simp; with_reducible rfl)) | refine skR 5 rfl (fun _ => hS) (by rfl) ?_); simp only [zq1, zq2, zq3, Act.put, zq4, zq5, zq6]
  refine wpAnyR_one 6 rfl (by kernel_rfl) (fun K hK6 => ?_)
  go_simp
  go_at_call 94
  have hb2 := HK2.out.blk HBS.out (fun x => x)
  have ho2 := HO1.out.kept HK2.out (fun _ _ x => x)
  have hsz := HK.out.size
  have hsz2 := HK2.out.size
  refine (add_GLOB 4 (.int .u8 gt) (.bool gm) (.int .u8 xt) (.int .u64 xl) (.int .u64 xh) rfl rfl rfl rfl rfl hb2 rfl ho2 hn (by omega)).mono ?_
  rintro e w4 ⟨rfl, lv', hb3, ho3, hk3, hl3⟩
  have hob := HO1.out.lt
  have hsb := HBS.out.lt
  have hB02 := HK2.out.blk HB0.out (fun x => x)
  have hB12 := HK2.out.blk HB1.out (fun x => x)
  have hne0 : sb ≠ bx := Blk.ne_ hb2 hB02 (by decide)
  have hne1 : sb ≠ bx + 1 := Blk.ne_ hb2 hB12 (by decide)
  have hB03 := hk3.blk hB02 (fun e => by
    rcases e with e | e
    · exact hne0 e.symm
    · exact ho2.ne_blk hB02 (by decide) e)
  have hB13 := hk3.blk hB12 (fun e => by
    rcases e with e | e
    · exact hne1 e.symm
    · exact ho2.ne_blk hB12 (by decide) e)
  have hS4 : w4.cell? ⟨bx, 0, none⟩ = some (.int .u8 gt) ∧ w4.cell? ⟨bx, 1, none⟩ = some (.bool gm) ∧ w4.cell? ⟨bx + 1, 0, none⟩ = some (.int .u8 xt) ∧ w4.cell? ⟨bx + 1, 1, none⟩ = some (.int .u64 xl) ∧ w4.cell? ⟨bx + 1, 2, none⟩ = some (.int .u64 xh) := ⟨hB03.cell 0, hB03.cell 1, hB13.cell 0, hB13.cell 1, hB13.cell 2⟩
  have HFIN := Lib.hid (show AddedG w w4 sb B n fl tl ml (.slice lA n lc) el' dl il F gt gm ⟨xt, xl, xh⟩ from
    ⟨⟨lv', hb3, ho3, hl3.imp id (fun ⟨g, a, b⟩ => ⟨g, a, by omega⟩)⟩, ((HK.out.then0 HK2.out).of0 _).trans hk3⟩)
  refine hK6.out _ _ (fun _ => hS4) ?_
  clear hK6 K hS hb2 ho2 hb3 ho3 hk3 hl3 hsz hsz2 hob hsb hB02 hB12 hne0 hne1 hB03 hB13 y0 y1 z0 z1 z2
  (first | (refine tkR 7 (v := ?_) rfl hS4 ⟨by rfl, ?_⟩ ?_; rotate_left; intro w h; (try dsimp only at h); first | (go_simp; done) | (go_simp; with_reducible rfl)) | refine skR 7 rfl (fun _ => hS4) (by rfl) ?_); simp only [zq1, zq2, zq3, Act.put, zq4, zq5, zq6]
  (first | (refine tkR 8 (v := ?_) rfl hS4 ⟨by rfl, ?_⟩ ?_; rotate_left; intro w h; (try dsimp only at h); first | (go_simp; done) | (go_simp; with_reducible rfl)) | refine skR 8 rfl (fun _ => hS4) (by rfl) ?_); simp only [zq1, zq2, zq3, Act.put, zq4, zq5, zq6]
  (first | (refine tkR 9 (v := ?_) rfl hS4 ⟨by rfl, ?_⟩ ?_; rotate_left; intro w h; (try dsimp only at h); first | (go_simp; done) | (go_simp; with_reducible rfl)) | refine skR 9 rfl (fun _ => hS4) (by rfl) ?_); simp only [zq1, zq2, zq3, Act.put, zq4, zq5, zq6]
  (first | (refine tkR 10 (v := ?_) rfl hS4 ⟨by rfl, ?_⟩ ?_; rotate_left; intro w h; (try dsimp only at h); first | (go_simp; done) | (go_simp; with_reducible rfl)) | refine skR 10 rfl (fun _ => hS4) (by rfl) ?_); simp only [zq1, zq2, zq3, Act.put, zq4, zq5, zq6]
  clear hS4
  refine wpAnyR_done (by kernel_rfl) ?_ _
  go_wp2_with fail
  go_ret2
  exact ⟨rfl, HFIN.out⟩
end
end Go.Proofs.YtlnkdnmeikpckaaGreat
namespace Go.Proofs.YtlnkdnmeikpckaaGreat
open Go.RowKit
set_option maxRecDepth 100000
section
variable {w : World} {sb B n : Nat} {fl tl ml gl el dl il : Value} {F : Nat → Value}
/-- What Fits answers of a function. -/
def fitF (k : Int) (same : Bool) : Int := if k = 0 ∧ same = true then 0 else 10
set_option maxRecDepth 100000 in
set_option maxHeartbeats 3200000 in
theorem fits_func_in (aa : Nat) (k : Int) (A C P R : Option Addr) (np c nr d mp cp mr cr : Nat) (v u pv ru : Nat → UInt8) (h : Bool) (s : ByteArray) (i b : Int) (im : Array Value) (hb : Blk w sb 132 (stCells fl tl ml gl el dl il)) (hown : Own w B 51 6 AnyV fl n F) (hn : n ≤ 65536) (ha : aa < n) (hF : FnAt w F aa A np c v C nr d u h s i b) (him : im[2]? = some (.int .u8 k)) (hP : TSl w P mp cp pv) (hR : TSl w R mr cr ru) :
    Calls Tryz.prog 10 #[.pointer (some ⟨sb, 0, none⟩), .agg #[.int .u8 0, .int .i64 (aa : Int)], .agg im, .agg #[.slice P mp cp, .slice R mr cr]] w fun e w' => e = .returned (.int .i64 (fitF k (eqT np mp v pv && eqT nr mr u ru))) ∧ Kept S0 w w' := by
  obtain ⟨a, haa⟩ : ∃ a : Int, a = (aa : Int) := ⟨_, rfl⟩
  rw [← haa]
  have HAA := Lib.hid haa
  clear haa
  have hk1 : Kept S0 w (((w.alloc (.cells #[.int .u8 0, .int .i64 a] 25)).alloc (.cells im 35)).alloc (.cells #[.slice P mp cp, .slice R mr cr] 38)) := (((Kept.refl S0 w).alloc _).alloc _).alloc _
  have hk2 : Kept S0 w ((((w.alloc (.cells #[.int .u8 0, .int .i64 a] 25)).alloc (.cells im 35)).alloc (.cells #[.slice P mp cp, .slice R mr cr] 38)).alloc (.cells #[.slice none 0 0, .slice none 0 0, .bool false, .string { data := #[] }, .int .i64 0, .int .i64 0] 51)) := hk1.alloc _
  have hE := (Blk.new w 25 #[.int .u8 0, .int .i64 a]).alloc (.cells im 35) |>.alloc (.cells #[.slice P mp cp, .slice R mr cr] 38)
  have hI := (Blk.new1 w (.cells #[.int .u8 0, .int .i64 a] 25) 35 im).alloc (.cells #[.slice P mp cp, .slice R mr cr] 38)
  have hT : Blk (((w.alloc (.cells #[.int .u8 0, .int .i64 a] 25)).alloc (.cells im 35)).alloc (.cells #[.slice P mp cp, .slice R mr cr] 38)) (w.heap.size + 1 + 1) 38 #[.slice P mp cp, .slice R mr cr] := by have x := Blk.new1 (w.alloc (.cells #[.int .u8 0, .int .i64 a] 25)) (.cells im 35) 38 #[.slice P mp cp, .slice R mr cr]; simpa using x
  have hX : Blk ((((w.alloc (.cells #[.int .u8 0, .int .i64 a] 25)).alloc (.cells im 35)).alloc (.cells #[.slice P mp cp, .slice R mr cr] 38)).alloc (.cells #[.slice none 0 0, .slice none 0 0, .bool false, .string { data := #[] }, .int .i64 0, .int .i64 0] 51)) (w.heap.size + 1 + 1 + 1) 51 #[.slice none 0 0, .slice none 0 0, .bool false, .string { data := #[] }, .int .i64 0, .int .i64 0] := by have x := Blk.new (((w.alloc (.cells #[.int .u8 0, .int .i64 a] 25)).alloc (.cells im 35)).alloc (.cells #[.slice P mp cp, .slice R mr cr] 38)) 51 #[.slice none 0 0, .slice none 0 0, .bool false, .string { data := #[] }, .int .i64 0, .int .i64 0]; simpa using x
  have hb1 := hk1.blk hb (fun x => x)
  have c0 := hb1.cell 0
  have e0 := hE.cell 0
  have HE := Lib.hid (hE.alloc (.cells #[.slice none 0 0, .slice none 0 0, .bool false, .string { data := #[] }, .int .i64 0, .int .i64 0] 51))
  have HI := Lib.hid (hI.alloc (.cells #[.slice none 0 0, .slice none 0 0, .bool false, .string { data := #[] }, .int .i64 0, .int .i64 0] 51))
  have HT := Lib.hid (hT.alloc (.cells #[.slice none 0 0, .slice none 0 0, .bool false, .string { data := #[] }, .int .i64 0, .int .i64 0] 51))
  have HX := Lib.hid hX
  have HB2 := Lib.hid (hk2.blk hb (fun x => x))
  have HO2 := Lib.hid (hown.kept hk2 (fun _ _ x => x))
  have HF2 := Lib.hid (hF.kept hk2)
  have HP := Lib.hid hP
  have HR := Lib.hid hR
  have hsz : ((((w.alloc (.cells #[.int .u8 0, .int .i64 a] 25)).alloc (.cells im 35)).alloc (.cells #[.slice P mp cp, .slice R mr cr] 38)).alloc (.cells #[.slice none 0 0, .slice none 0 0, .bool false, .string { data := #[] }, .int .i64 0, .int .i64 0] 51)).heap.size = w.heap.size + 4 := by simp
  have HSZ := Lib.hid hsz
  have HK2 := Lib.hid hk2
  have e1 := HE.out.cell 1
  have HIM := Lib.hid him
  have hpsz := hF.p.sz
  have hrsz := hF.r.sz
  clear hb hown hF him hP hR hk1 hk2 hE hI hT hX hb1 hsz
  go_enter Tryz.func10, Tryz.ntmps10
  go_wp2_with fail
  refine (off_made _ _ c0).mono ?_
  rintro e w1 ⟨rfl, rfl⟩
  clear c0
  go_wp2_with fail
  clear e0
  obtain rfl := HAA.out
  refine (getfunc_in aa A C np c nr d v u h s i b HB2.out HO2.out hn ha HF2.out).mono ?_
  rintro e w3 ⟨y, z, rfl, hy, hz, hk3⟩
  obtain ⟨yA, yc, hye, _, _, _⟩ := hy.out
  obtain ⟨zA, zc, hze, _, _, _⟩ := hz.out
  subst hye hze
  clear e1
  generalize hxb : w.heap.size = xb at *
  generalize hb3 : xb + 1 + 1 + 1 = x3 at *
  generalize hb2 : xb + 1 + 1 = x2 at *
  generalize hb1 : xb + 1 = x1 at *
  have hq3 : xb + 3 = x3 := by omega
  have hq2 : xb + 2 = x2 := by omega
  clear hb3 hb2
  have hx3 := hk3.blk HX.out (fun x => x)
  have f0 := hx3.frozen 0
  have g0 : w3.cell? ⟨x3, 0, none⟩ = some (.slice none 0 0) := hx3.cell 0
  have f1 := hx3.frozen 1
  have g1 : w3.cell? ⟨x3, 1, none⟩ = some (.slice none 0 0) := hx3.cell 1
  have f2 := hx3.frozen 2
  have g2 : w3.cell? ⟨x3, 2, none⟩ = some (.bool false) := hx3.cell 2
  have f3 := hx3.frozen 3
  have g3 : w3.cell? ⟨x3, 3, none⟩ = some (.string { data := #[] }) := hx3.cell 3
  have f4 := hx3.frozen 4
  have g4 : w3.cell? ⟨x3, 4, none⟩ = some (.int .i64 0) := hx3.cell 4
  have f5 := hx3.frozen 5
  have g5 : w3.cell? ⟨x3, 5, none⟩ = some (.int .i64 0) := hx3.cell 5
  have hk4 := (((((((Kept.refl (S1 (x3)) w3).setCell (p := ⟨x3, 0, none⟩) (.inl rfl) (.slice yA np yc)).setCell (p := ⟨x3, 1, none⟩) (.inl rfl) (.slice zA nr zc)).setCell (p := ⟨x3, 2, none⟩) (.inl rfl) (.bool h)).setCell (p := ⟨x3, 3, none⟩) (.inl rfl) (.string s)).setCell (p := ⟨x3, 4, none⟩) (.inl rfl) (.int .i64 i)).setCell (p := ⟨x3, 5, none⟩) (.inl rfl) (.int .i64 b))
  have hx4 : Blk ((((((w3.setCell ⟨x3, 0, none⟩ (.slice yA np yc)).setCell ⟨x3, 1, none⟩ (.slice zA nr zc)).setCell ⟨x3, 2, none⟩ (.bool h)).setCell ⟨x3, 3, none⟩ (.string s)).setCell ⟨x3, 4, none⟩ (.int .i64 i)).setCell ⟨x3, 5, none⟩ (.int .i64 b)) (x3) 51 #[.slice yA np yc, .slice zA nr zc, .bool h, .string s, .int .i64 i, .int .i64 b] := ((((((hx3.set_ 0 (.slice yA np yc)).set_ 1 (.slice zA nr zc)).set_ 2 (.bool h)).set_ 3 (.string s)).set_ 4 (.int .i64 i)).set_ 5 (.int .i64 b))
  have hE4 : Blk ((((((w3.setCell ⟨x3, 0, none⟩ (.slice yA np yc)).setCell ⟨x3, 1, none⟩ (.slice zA nr zc)).setCell ⟨x3, 2, none⟩ (.bool h)).setCell ⟨x3, 3, none⟩ (.string s)).setCell ⟨x3, 4, none⟩ (.int .i64 i)).setCell ⟨x3, 5, none⟩ (.int .i64 b)) xb 25 #[.int .u8 0, .int .i64 (aa : Int)] := hk4.blk (hk3.blk HE.out (fun x => x)) (fun e => by have e' : xb = x3 := e; omega)
  have hI4 : Blk ((((((w3.setCell ⟨x3, 0, none⟩ (.slice yA np yc)).setCell ⟨x3, 1, none⟩ (.slice zA nr zc)).setCell ⟨x3, 2, none⟩ (.bool h)).setCell ⟨x3, 3, none⟩ (.string s)).setCell ⟨x3, 4, none⟩ (.int .i64 i)).setCell ⟨x3, 5, none⟩ (.int .i64 b)) x1 35 im := hk4.blk (hk3.blk HI.out (fun x => x)) (fun e => by have e' : x1 = x3 := e; omega)
  have hT4 : Blk ((((((w3.setCell ⟨x3, 0, none⟩ (.slice yA np yc)).setCell ⟨x3, 1, none⟩ (.slice zA nr zc)).setCell ⟨x3, 2, none⟩ (.bool h)).setCell ⟨x3, 3, none⟩ (.string s)).setCell ⟨x3, 4, none⟩ (.int .i64 i)).setCell ⟨x3, 5, none⟩ (.int .i64 b)) (x2) 38 #[.slice P mp cp, .slice R mr cr] := hk4.blk (hk3.blk HT.out (fun x => x)) (fun e => by have e' : x2 = x3 := e; omega)
  have hyk := hy.kept hk4 (fun g hg e => by have e' : g = x3 := e; have h1 := (hy.lt g hg).1; have := HSZ.out; omega)
  have hzk := hz.kept hk4 (fun g hg e => by have e' : g = x3 := e; have h1 := (hz.lt g hg).1; have := HSZ.out; omega)
  have HKK := Lib.hid ((HK2.out.then0 hk3).trans_ hk4 (fun i e => .inr (by have e' : i = x3 := e; omega)))
  have hP4 := HP.out.kept HKK.out
  have hR4 := HR.out.kept HKK.out
  have HE4 := Lib.hid hE4
  have HI4 := Lib.hid hI4
  have HIK := Lib.hid (show ((((((w3.setCell ⟨x3, 0, none⟩ (.slice yA np yc)).setCell ⟨x3, 1, none⟩ (.slice zA nr zc)).setCell ⟨x3, 2, none⟩ (.bool h)).setCell ⟨x3, 3, none⟩ (.string s)).setCell ⟨x3, 4, none⟩ (.int .i64 i)).setCell ⟨x3, 5, none⟩ (.int .i64 b)).cell? ⟨x1, 2, none⟩ = some (.int .u8 k) from (hI4.cell 2).trans HIM.out)
  have s0 : ((((((w3.setCell ⟨x3, 0, none⟩ (.slice yA np yc)).setCell ⟨x3, 1, none⟩ (.slice zA nr zc)).setCell ⟨x3, 2, none⟩ (.bool h)).setCell ⟨x3, 3, none⟩ (.string s)).setCell ⟨x3, 4, none⟩ (.int .i64 i)).setCell ⟨x3, 5, none⟩ (.int .i64 b)).cell? ⟨x3, 0, none⟩ = some (.slice yA np yc) := hx4.cell 0
  have s1 : ((((((w3.setCell ⟨x3, 0, none⟩ (.slice yA np yc)).setCell ⟨x3, 1, none⟩ (.slice zA nr zc)).setCell ⟨x3, 2, none⟩ (.bool h)).setCell ⟨x3, 3, none⟩ (.string s)).setCell ⟨x3, 4, none⟩ (.int .i64 i)).setCell ⟨x3, 5, none⟩ (.int .i64 b)).cell? ⟨x3, 1, none⟩ = some (.slice zA nr zc) := hx4.cell 1
  have s2 : ((((((w3.setCell ⟨x3, 0, none⟩ (.slice yA np yc)).setCell ⟨x3, 1, none⟩ (.slice zA nr zc)).setCell ⟨x3, 2, none⟩ (.bool h)).setCell ⟨x3, 3, none⟩ (.string s)).setCell ⟨x3, 4, none⟩ (.int .i64 i)).setCell ⟨x3, 5, none⟩ (.int .i64 b)).cell? ⟨x2, 0, none⟩ = some (.slice P mp cp) := hT4.cell 0
  have s3 : ((((((w3.setCell ⟨x3, 0, none⟩ (.slice yA np yc)).setCell ⟨x3, 1, none⟩ (.slice zA nr zc)).setCell ⟨x3, 2, none⟩ (.bool h)).setCell ⟨x3, 3, none⟩ (.string s)).setCell ⟨x3, 4, none⟩ (.int .i64 i)).setCell ⟨x3, 5, none⟩ (.int .i64 b)).cell? ⟨x2, 1, none⟩ = some (.slice R mr cr) := hT4.cell 1
  have HSM := Lib.hid (same_any yA zA P R np nr mp mr yc zc cp cr v u pv ru ((((((w3.setCell ⟨x3, 0, none⟩ (.slice yA np yc)).setCell ⟨x3, 1, none⟩ (.slice zA nr zc)).setCell ⟨x3, 2, none⟩ (.bool h)).setCell ⟨x3, 3, none⟩ (.string s)).setCell ⟨x3, 4, none⟩ (.int .i64 i)).setCell ⟨x3, 5, none⟩ (.int .i64 b)) (tsl_own hyk hpsz) (tsl_own hzk hrsz) hP4 hR4)
  clear hk4 hx4 hE4 hI4 hT4 hyk hzk hP4 hR4 hy hz hk3 hx3
  go_wp2_with fail
  refine HSM.out.mono ?_
  rintro e w5 ⟨rfl, hk5⟩
  have hkk5 := HKK.out.then0 hk5
  have e0 := (hk5.blk HE4.out (fun x => x)).cell 0
  have i2 := keep0 hk5 HIK.out
  have HK5 := Lib.hid hkk5
  clear hkk5 hk5 s0 s1 s2 s3 f0 f1 f2 f3 f4 f5 g0 g1 g2 g3 g4 g5
  cases hs : (eqT np mp v pv && eqT nr mr u ru) with
  | false =>
    have HS := Lib.hid hs
    clear hs
    have HR5 : fitF k false = 10 := by simp [fitF]
    by_cases hk : k = 0
    · subst hk
      go_wp2_with fail
      go_ret
      exact ⟨ret_int (by rw [HS.out, HR5]), HK5.out⟩
    · have hk1 : ((0 : Int) != k) = true := bne_iff_ne.2 (fun e => hk e.symm)
      clear hk
      go_wp2_with fail
      go_ret
      exact ⟨ret_int (by rw [HS.out, HR5]), HK5.out⟩
  | true =>
    have HS := Lib.hid hs
    clear hs
    by_cases hk : k = 0
    · subst hk
      go_wp2_with fail
      go_ret
      exact ⟨ret_int (by rw [HS.out]; rfl), HK5.out⟩
    · have HR5 : fitF k true = 10 := by simp [fitF, hk]
      have hk1 : ((0 : Int) != k) = true := bne_iff_ne.2 (fun e => hk e.symm)
      clear hk
      go_wp2_with fail
      go_ret
      exact ⟨ret_int (by rw [HS.out, HR5]), HK5.out⟩
end
end Go.Proofs.YtlnkdnmeikpckaaGreat
namespace Go.Proofs.YtlnkdnmeikpckaaGreat
open Go.RowKit
set_option maxRecDepth 100000
set_option maxRecDepth 100000 in
set_option maxHeartbeats 6400000 in
theorem sizes_any {w : World} {sb : Nat} {A0 A1 A2 A3 A4 A5 A6 : Option Addr} {n0 n1 n2 n3 n4 n5 n6 c0 c1 c2 c3 c4 c5 c6 : Nat} (hb : Blk w sb 132 (stCells (.slice A0 n0 c0) (.slice A1 n1 c1) (.slice A2 n2 c2) (.slice A3 n3 c3) (.slice A4 n4 c4) (.slice A5 n5 c5) (.slice A6 n6 c6))) :
    Calls Tryz.prog 13 #[.pointer (some ⟨sb, 0, none⟩)] w fun e w' => e = .returned (.agg #[.int .i64 (n0 : Int), .int .i64 (n1 : Int), .int .i64 (n2 : Int), .int .i64 (n3 : Int), .int .i64 (n4 : Int), .int .i64 (n5 : Int), .int .i64 (n6 : Int)]) ∧ Kept S0 w w' := by
  have hka : Kept S0 w (w.alloc (.cells #[.int .i64 0, .int .i64 0, .int .i64 0, .int .i64 0, .int .i64 0, .int .i64 0, .int .i64 0] 43)) := (Kept.refl S0 w).alloc _
  have hb1 := hka.blk hb (fun x => x)
  have hr := Blk.new w 43 #[.int .i64 0, .int .i64 0, .int .i64 0, .int .i64 0, .int .i64 0, .int .i64 0, .int .i64 0]
  have k0 := hb1.cell 0
  have HB1 := Lib.hid hb1
  have HR := Lib.hid hr
  have HK := Lib.hid hka
  clear hb hka hb1 hr
  go_enter Tryz.func13, Tryz.ntmps13
  go_wp2_with fail
  refine (off_made _ _ k0).mono ?_
  rintro e w1 ⟨rfl, rfl⟩
  go_wp2_with fail
  generalize hrb : w.heap.size = rb at *
  refine wp_region_R (fun w' => w'.cell? ⟨sb, 1, none⟩ = some (.slice A0 n0 c0) ∧ w'.cell? ⟨sb, 2, none⟩ = some (.slice A1 n1 c1) ∧ w'.cell? ⟨sb, 3, none⟩ = some (.slice A2 n2 c2) ∧ w'.cell? ⟨sb, 4, none⟩ = some (.slice A3 n3 c3) ∧ w'.cell? ⟨sb, 5, none⟩ = some (.slice A4 n4 c4) ∧ w'.cell? ⟨sb, 6, none⟩ = some (.slice A5 n5 c5) ∧ w'.cell? ⟨sb, 7, none⟩ = some (.slice A6 n6 c6)) [43] (by kernel_rfl) ?_
  have hd := HK.out.drew
  have hb2 := HB1.out.drew
  have hr2 := HR.out.drew
  generalize (w.alloc (.cells #[.int .i64 0, .int .i64 0, .int .i64 0, .int .i64 0, .int .i64 0, .int .i64 0, .int .i64 0] 43)).drew = w1 at *
  clear k0
  have hS : w1.cell? ⟨sb, 1, none⟩ = some (.slice A0 n0 c0) ∧ w1.cell? ⟨sb, 2, none⟩ = some (.slice A1 n1 c1) ∧ w1.cell? ⟨sb, 3, none⟩ = some (.slice A2 n2 c2) ∧ w1.cell? ⟨sb, 4, none⟩ = some (.slice A3 n3 c3) ∧ w1.cell? ⟨sb, 5, none⟩ = some (.slice A4 n4 c4) ∧ w1.cell? ⟨sb, 6, none⟩ = some (.slice A5 n5 c5) ∧ w1.cell? ⟨sb, 7, none⟩ = some (.slice A6 n6 c6) := ⟨hb2.cell 1, hb2.cell 2, hb2.cell 3, hb2.cell 4, hb2.cell 5, hb2.cell 6, hb2.cell 7⟩
  have r0 := hr2.cell 0
  have q0 := hr2.frozen 0
  have r1 := hr2.cell 1
  have q1 := hr2.frozen 1
  have r2 := hr2.cell 2
  have q2 := hr2.frozen 2
  have r3 := hr2.cell 3
  have q3 := hr2.frozen 3
  have r4 := hr2.cell 4
  have q4 := hr2.frozen 4
  have r5 := hr2.cell 5
  have q5 := hr2.frozen 5
  have r6 := hr2.cell 6
  have q6 := hr2.frozen 6
  have hR2 : Blk (((((((w1.setCell ⟨rb, 0, none⟩ (.int .i64 (n0 : Int))).setCell ⟨rb, 1, none⟩ (.int .i64 (n1 : Int))).setCell ⟨rb, 2, none⟩ (.int .i64 (n2 : Int))).setCell ⟨rb, 3, none⟩ (.int .i64 (n3 : Int))).setCell ⟨rb, 4, none⟩ (.int .i64 (n4 : Int))).setCell ⟨rb, 5, none⟩ (.int .i64 (n5 : Int))).setCell ⟨rb, 6, none⟩ (.int .i64 (n6 : Int))) rb 43 #[.int .i64 (n0 : Int), .int .i64 (n1 : Int), .int .i64 (n2 : Int), .int .i64 (n3 : Int), .int .i64 (n4 : Int), .int .i64 (n5 : Int), .int .i64 (n6 : Int)] := (((((((hr2.set_ 0 (.int .i64 (n0 : Int))).set_ 1 (.int .i64 (n1 : Int))).set_ 2 (.int .i64 (n2 : Int))).set_ 3 (.int .i64 (n3 : Int))).set_ 4 (.int .i64 (n4 : Int))).set_ 5 (.int .i64 (n5 : Int))).set_ 6 (.int .i64 (n6 : Int)))
  have HR4 := Lib.hid hR2
  have HK4 := Lib.hid (hd.trans_ ((((((((Kept.refl (S1 rb) w1).setCell (p := ⟨rb, 0, none⟩) (.inl rfl) (.int .i64 (n0 : Int))).setCell (p := ⟨rb, 1, none⟩) (.inl rfl) (.int .i64 (n1 : Int))).setCell (p := ⟨rb, 2, none⟩) (.inl rfl) (.int .i64 (n2 : Int))).setCell (p := ⟨rb, 3, none⟩) (.inl rfl) (.int .i64 (n3 : Int))).setCell (p := ⟨rb, 4, none⟩) (.inl rfl) (.int .i64 (n4 : Int))).setCell (p := ⟨rb, 5, none⟩) (.inl rfl) (.int .i64 (n5 : Int))).setCell (p := ⟨rb, 6, none⟩) (.inl rfl) (.int .i64 (n6 : Int))) (fun i e => .inr (by have e' : i = rb := e; omega)))
  clear hd hb2 hr2 hR2
  refine tkR 0 (v := ?_) rfl hS ⟨by rfl, ?_⟩ ?_
  rotate_left; (intro w hSw; (try dsimp only at hSw); first | (go_simp; done) | (go_simp; with_reducible rfl))
  simp only [zq1, zq2, Act.put, zq4, zq5, zq6]
  refine tkR 1 (v := ?_) rfl hS ⟨by rfl, ?_⟩ ?_
  rotate_left; (intro w hSw; (try dsimp only at hSw); first | (go_simp; done) | (go_simp; with_reducible rfl))
  simp only [zq1, zq2, zq3, Act.put, zq4, zq5, zq6]
  refine tkR 2 (v := ?_) rfl hS ⟨by rfl, ?_⟩ ?_
  rotate_left; (intro w hSw; (try dsimp only at hSw); first | (go_simp; done) | (go_simp; with_reducible rfl))
  simp only [zq1, zq2, zq3, Act.put, zq4, zq5, zq6]
  refine tkR 3 (v := ?_) rfl hS ⟨by rfl, ?_⟩ ?_
  rotate_left; (intro w hSw; (try dsimp only at hSw); first | (go_simp; done) | (go_simp; with_reducible rfl))
  simp only [zq1, zq2, zq3, Act.put, zq4, zq5, zq6]
  refine tkR 4 (v := ?_) rfl hS ⟨by rfl, ?_⟩ ?_
  rotate_left; (intro w hSw; (try dsimp only at hSw); first | (go_simp; done) | (go_simp; with_reducible rfl))
  simp only [zq1, zq2, zq3, Act.put, zq4, zq5, zq6]
  refine tkR 5 (v := ?_) rfl hS ⟨by rfl, ?_⟩ ?_
  rotate_left; (intro w hSw; (try dsimp only at hSw); first | (go_simp; done) | (go_simp; with_reducible rfl))
  simp only [zq1, zq2, zq3, Act.put, zq4, zq5, zq6]
  refine tkR 6 (v := ?_) rfl hS ⟨by rfl, ?_⟩ ?_
  rotate_left; (intro w hSw; (try dsimp only at hSw); first | (go_simp; done) | (go_simp; with_reducible rfl))
  simp only [zq1, zq2, zq3, Act.put, zq4, zq5, zq6]
  refine tkR 7 (v := ?_) rfl hS ⟨by rfl, ?_⟩ ?_
  rotate_left; (intro w hSw; (try dsimp only at hSw); first | (go_simp; done) | (go_simp; with_reducible rfl))
  simp only [zq1, zq2, zq3, Act.put, zq4, zq5, zq6]
  refine tkR 8 (v := ?_) rfl hS ⟨by rfl, ?_⟩ ?_
  rotate_left; (intro w hSw; (try dsimp only at hSw); first | (go_simp; done) | (go_simp; with_reducible rfl))
  simp only [zq1, zq2, zq3, Act.put, zq4, zq5, zq6]
  refine tkR 9 (v := ?_) rfl hS ⟨by rfl, ?_⟩ ?_
  rotate_left; (intro w hSw; (try dsimp only at hSw); first | (go_simp; done) | (go_simp; with_reducible rfl))
  simp only [zq1, zq2, zq3, Act.put, zq4, zq5, zq6]
  refine tkR 10 (v := ?_) rfl hS ⟨by rfl, ?_⟩ ?_
  rotate_left; (intro w hSw; (try dsimp only at hSw); first | (go_simp; done) | (go_simp; with_reducible rfl))
  simp only [zq1, zq2, zq3, Act.put, zq4, zq5, zq6]
  refine tkR 11 (v := ?_) rfl hS ⟨by rfl, ?_⟩ ?_
  rotate_left; (intro w hSw; (try dsimp only at hSw); first | (go_simp; done) | (go_simp; with_reducible rfl))
  simp only [zq1, zq2, zq3, Act.put, zq4, zq5, zq6]
  refine tkR 12 (v := ?_) rfl hS ⟨by rfl, ?_⟩ ?_
  rotate_left; (intro w hSw; (try dsimp only at hSw); first | (go_simp; done) | (go_simp; with_reducible rfl))
  simp only [zq1, zq2, zq3, Act.put, zq4, zq5, zq6]
  refine tkR 13 (v := ?_) rfl hS ⟨by rfl, ?_⟩ ?_
  rotate_left; (intro w hSw; (try dsimp only at hSw); first | (go_simp; done) | (go_simp; with_reducible rfl))
  simp only [zq1, zq2, zq3, Act.put, zq4, zq5, zq6]
  refine tkR 14 (v := ?_) rfl hS ⟨by rfl, ?_⟩ ?_
  rotate_left; (intro w hSw; (try dsimp only at hSw); first | (go_simp; done) | (go_simp; with_reducible rfl))
  simp only [zq1, zq2, zq3, Act.put, zq4, zq5, zq6]
  refine tkR 15 (v := ?_) rfl hS ⟨by rfl, ?_⟩ ?_
  rotate_left; (intro w hSw; (try dsimp only at hSw); first | (go_simp; done) | (go_simp; with_reducible rfl))
  simp only [zq1, zq2, zq3, Act.put, zq4, zq5, zq6]
  refine tkR 16 (v := ?_) rfl hS ⟨by rfl, ?_⟩ ?_
  rotate_left; (intro w hSw; (try dsimp only at hSw); first | (go_simp; done) | (go_simp; with_reducible rfl))
  simp only [zq1, zq2, zq3, Act.put, zq4, zq5, zq6]
  refine tkR 17 (v := ?_) rfl hS ⟨by rfl, ?_⟩ ?_
  rotate_left; (intro w hSw; (try dsimp only at hSw); first | (go_simp; done) | (go_simp; with_reducible rfl))
  simp only [zq1, zq2, zq3, Act.put, zq4, zq5, zq6]
  refine tkR 18 (v := ?_) rfl hS ⟨by rfl, ?_⟩ ?_
  rotate_left; (intro w hSw; (try dsimp only at hSw); first | (go_simp; done) | (go_simp; with_reducible rfl))
  simp only [zq1, zq2, zq3, Act.put, zq4, zq5, zq6]
  refine tkR 19 (v := ?_) rfl hS ⟨by rfl, ?_⟩ ?_
  rotate_left; (intro w hSw; (try dsimp only at hSw); first | (go_simp; done) | (go_simp; with_reducible rfl))
  simp only [zq1, zq2, zq3, Act.put, zq4, zq5, zq6]
  refine tkR 20 (v := ?_) rfl hS ⟨by rfl, ?_⟩ ?_
  rotate_left; (intro w hSw; (try dsimp only at hSw); first | (go_simp; done) | (go_simp; with_reducible rfl))
  simp only [zq1, zq2, zq3, Act.put, zq4, zq5, zq6]
  refine tkR 21 (v := ?_) rfl hS ⟨by rfl, ?_⟩ ?_
  rotate_left; (intro w hSw; (try dsimp only at hSw); first | (go_simp; done) | (go_simp; with_reducible rfl))
  simp only [zq1, zq2, zq3, Act.put, zq4, zq5, zq6]
  refine tkR 22 (v := ?_) rfl hS ⟨by rfl, ?_⟩ ?_
  rotate_left; (intro w hSw; (try dsimp only at hSw); first | (go_simp; done) | (go_simp; with_reducible rfl))
  simp only [zq1, zq2, zq3, Act.put, zq4, zq5, zq6]
  refine tkR 23 (v := ?_) rfl hS ⟨by rfl, ?_⟩ ?_
  rotate_left; (intro w hSw; (try dsimp only at hSw); first | (go_simp; done) | (go_simp; with_reducible rfl))
  simp only [zq1, zq2, zq3, Act.put, zq4, zq5, zq6]
  refine tkR 24 (v := ?_) rfl hS ⟨by rfl, ?_⟩ ?_
  rotate_left; (intro w hSw; (try dsimp only at hSw); first | (go_simp; done) | (go_simp; with_reducible rfl))
  simp only [zq1, zq2, zq3, Act.put, zq4, zq5, zq6]
  refine tkR 25 (v := ?_) rfl hS ⟨by rfl, ?_⟩ ?_
  rotate_left; (intro w hSw; (try dsimp only at hSw); first | (go_simp; done) | (go_simp; with_reducible rfl))
  simp only [zq1, zq2, zq3, Act.put, zq4, zq5, zq6]
  refine tkR 26 (v := ?_) rfl hS ⟨by rfl, ?_⟩ ?_
  rotate_left; (intro w hSw; (try dsimp only at hSw); first | (go_simp; done) | (go_simp; with_reducible rfl))
  simp only [zq1, zq2, zq3, Act.put, zq4, zq5, zq6]
  refine tkR 27 (v := ?_) rfl hS ⟨by rfl, ?_⟩ ?_
  rotate_left; (intro w hSw; (try dsimp only at hSw); first | (go_simp; done) | (go_simp; with_reducible rfl))
  simp only [zq1, zq2, zq3, Act.put, zq4, zq5, zq6]
  refine tkR 28 (v := ?_) rfl hS ⟨by rfl, ?_⟩ ?_
  rotate_left; (intro w hSw; (try dsimp only at hSw); first | (go_simp; done) | (go_simp; with_reducible rfl))
  simp only [zq1, zq2, zq3, Act.put, zq4, zq5, zq6]
  refine tkR 29 (v := ?_) rfl hS ⟨by rfl, ?_⟩ ?_
  rotate_left; (intro w hSw; (try dsimp only at hSw); first | (go_simp; done) | (go_simp; with_reducible rfl))
  simp only [zq1, zq2, zq3, Act.put, zq4, zq5, zq6]
  refine tkR 30 (v := ?_) rfl hS ⟨by rfl, ?_⟩ ?_
  rotate_left; (intro w hSw; (try dsimp only at hSw); first | (go_simp; done) | (go_simp; with_reducible rfl))
  simp only [zq1, zq2, zq3, Act.put, zq4, zq5, zq6]
  refine tkR 31 (v := ?_) rfl hS ⟨by rfl, ?_⟩ ?_
  rotate_left; (intro w hSw; (try dsimp only at hSw); first | (go_simp; done) | (go_simp; with_reducible rfl))
  simp only [zq1, zq2, zq3, Act.put, zq4, zq5, zq6]
  refine tkR 32 (v := ?_) rfl hS ⟨by rfl, ?_⟩ ?_
  rotate_left; (intro w hSw; (try dsimp only at hSw); first | (go_simp; done) | (go_simp; with_reducible rfl))
  simp only [zq1, zq2, zq3, Act.put, zq4, zq5, zq6]
  refine tkR 33 (v := ?_) rfl hS ⟨by rfl, ?_⟩ ?_
  rotate_left; (intro w hSw; (try dsimp only at hSw); first | (go_simp; done) | (go_simp; with_reducible rfl))
  simp only [zq1, zq2, zq3, Act.put, zq4, zq5, zq6]
  refine tkR 34 (v := ?_) rfl hS ⟨by rfl, ?_⟩ ?_
  rotate_left; (intro w hSw; (try dsimp only at hSw); first | (go_simp; done) | (go_simp; with_reducible rfl))
  simp only [zq1, zq2, zq3, Act.put, zq4, zq5, zq6]
  refine tkR 35 (v := ?_) rfl hS ⟨by rfl, ?_⟩ ?_
  rotate_left; (intro w hSw; (try dsimp only at hSw); first | (go_simp; done) | (go_simp; with_reducible rfl))
  simp only [zq1, zq2, zq3, Act.put, zq4, zq5, zq6]
  refine tkR 36 (v := ?_) rfl hS ⟨by rfl, ?_⟩ ?_
  rotate_left; (intro w hSw; (try dsimp only at hSw); first | (go_simp; done) | (go_simp; with_reducible rfl))
  simp only [zq1, zq2, zq3, Act.put, zq4, zq5, zq6]
  refine tkR 37 (v := ?_) rfl hS ⟨by rfl, ?_⟩ ?_
  rotate_left; (intro w hSw; (try dsimp only at hSw); first | (go_simp; done) | (go_simp; with_reducible rfl))
  simp only [zq1, zq2, zq3, Act.put, zq4, zq5, zq6]
  refine tkR 38 (v := ?_) rfl hS ⟨by rfl, ?_⟩ ?_
  rotate_left; (intro w hSw; (try dsimp only at hSw); first | (go_simp; done) | (go_simp; with_reducible rfl))
  simp only [zq1, zq2, zq3, Act.put, zq4, zq5, zq6]
  refine tkR 39 (v := ?_) rfl hS ⟨by rfl, ?_⟩ ?_
  rotate_left; (intro w hSw; (try dsimp only at hSw); first | (go_simp; done) | (go_simp; with_reducible rfl))
  simp only [zq1, zq2, zq3, Act.put, zq4, zq5, zq6]
  refine tkR 40 (v := ?_) rfl hS ⟨by rfl, ?_⟩ ?_
  rotate_left; (intro w hSw; (try dsimp only at hSw); first | (go_simp; done) | (go_simp; with_reducible rfl))
  simp only [zq1, zq2, zq3, Act.put, zq4, zq5, zq6]
  refine tkR 41 (v := ?_) rfl hS ⟨by rfl, ?_⟩ ?_
  rotate_left; (intro w hSw; (try dsimp only at hSw); first | (go_simp; done) | (go_simp; with_reducible rfl))
  simp only [zq1, zq2, zq3, Act.put, zq4, zq5, zq6]
  refine tkR 42 (v := ?_) rfl hS ⟨by rfl, ?_⟩ ?_
  rotate_left; (intro w hSw; (try dsimp only at hSw); first | (go_simp; done) | (go_simp; with_reducible rfl))
  simp only [zq1, zq2, zq3, Act.put, zq4, zq5, zq6]
  refine wpAnyR_one 43 rfl (by kernel_rfl) (fun K hK => ?_)
  go_simp
  refine hK.out _ _ (fun h => absurd h (by decide)) ?_
  clear hK K
  refine wpAnyR_done (by kernel_rfl) ?_ _
  have u0 := HR4.out.cell 0
  have u1 := HR4.out.cell 1
  have u2 := HR4.out.cell 2
  have u3 := HR4.out.cell 3
  have u4 := HR4.out.cell 4
  have u5 := HR4.out.cell 5
  have u6 := HR4.out.cell 6
  go_wp2_with fail
  exact bodyPost_ret (v := .agg #[.int .i64 (n0 : Int), .int .i64 (n1 : Int), .int .i64 (n2 : Int), .int .i64 (n3 : Int), .int .i64 (n4 : Int), .int .i64 (n5 : Int), .int .i64 (n6 : Int)]) (by simp [results, Tryz.results13, go_sem, u0, u1, u2, u3, u4, u5, u6]) rfl ⟨rfl, HK4.out⟩
end Go.Proofs.YtlnkdnmeikpckaaGreat
namespace Go.Proofs.YtlnkdnmeikpckaaGreat
open Go.RowKit
set_option maxRecDepth 100000
set_option maxRecDepth 100000 in
set_option maxHeartbeats 6400000 in
theorem typed_funcs {w : World} {sb : Nat} {A0 A2 A5 : Option Addr} {n0 n2 n5 c0 c2 c5 : Nat} (hb : Blk w sb 132 (stCells (.slice A0 n0 c0) (.slice none 0 0) (.slice A2 n2 c2) (.slice none 0 0) (.slice none 0 0) (.slice A5 n5 c5) (.slice none 0 0))) :
    Calls Tryz.prog 21 #[.pointer (some ⟨sb, 0, none⟩)] w fun e w' => e = .returned (.bool true) ∧ Kept S0 w w' := by
  have hka : Kept S0 w (w.alloc (.cells #[.pointer (some ⟨sb, 0, none⟩)] 39)) := (Kept.refl S0 w).alloc _
  have hb1 := hka.blk hb (fun x => x)
  have hx : (w.alloc (.cells #[.pointer (some ⟨sb, 0, none⟩)] 39)).cell? ⟨w.heap.size, 0, none⟩ = some (.pointer (some ⟨sb, 0, none⟩)) := (Blk.new w 39 #[.pointer (some ⟨sb, 0, none⟩)]).cell 0
  have HX := Lib.hid (show Blk (w.alloc (.cells #[.pointer (some ⟨sb, 0, none⟩)] 39)) w.heap.size 39 #[.pointer (some ⟨sb, 0, none⟩)] from Blk.new w 39 #[.pointer (some ⟨sb, 0, none⟩)])
  have k0 : (w.alloc (.cells #[.pointer (some ⟨sb, 0, none⟩)] 39)).cell? ⟨sb, 0, none⟩ = some (.bool true) := hb1.cell 0
  have k2 : (w.alloc (.cells #[.pointer (some ⟨sb, 0, none⟩)] 39)).cell? ⟨sb, 2, none⟩ = some (.slice none 0 0) := hb1.cell 2
  have k4 : (w.alloc (.cells #[.pointer (some ⟨sb, 0, none⟩)] 39)).cell? ⟨sb, 4, none⟩ = some (.slice none 0 0) := hb1.cell 4
  have k5 : (w.alloc (.cells #[.pointer (some ⟨sb, 0, none⟩)] 39)).cell? ⟨sb, 5, none⟩ = some (.slice none 0 0) := hb1.cell 5
  have HB1 := Lib.hid hb1
  have HK := Lib.hid hka
  clear hb hka hb1
  go_enter Tryz.func21, Tryz.ntmps21
  go_wp2_with fail
  generalize hrb : w.heap.size = rb at *
  generalize hwa : w.alloc (.cells #[.pointer (some ⟨sb, 0, none⟩)] 39) = w1 at *
  clear hwa
  refine (off_made _ _ k0).mono ?_
  rintro e w2 ⟨rfl, rfl⟩
  go_wp2_with fail
  go_loopw [24] (fun i wr => i = .int .i64 0 ∧ wr = w1) (fun _ _ => 0)
  case atStart => exact ⟨rfl, rfl⟩
  case round =>
    obtain ⟨rfl, rfl⟩ := hrel
    go_wp2_with fail
    go_loopw [40] (fun i wr2 => i = .int .i64 0 ∧ wr2 = wr) (fun _ _ => 0)
    case atStart => exact ⟨rfl, rfl⟩
    case round =>
      obtain ⟨rfl, rfl⟩ := hrel
      go_wp2_with fail
      go_loopw [65] (fun i wr2 => i = .int .i64 0 ∧ wr2 = wr) (fun _ _ => 0)
      case atStart => exact ⟨rfl, rfl⟩
      case round =>
        obtain ⟨rfl, rfl⟩ := hrel
        go_wp2_with fail
        have hsz : Calls Tryz.prog 13 #[.pointer (some ⟨sb, 0, none⟩)] wr fun e w' => e = .returned (.agg #[.int .i64 (n0 : Int), .int .i64 0, .int .i64 (n2 : Int), .int .i64 0, .int .i64 0, .int .i64 (n5 : Int), .int .i64 0]) ∧ Kept S0 wr w' := sizes_any HB1.out
        refine hsz.mono ?_
        clear hsz
        rintro e w3 ⟨rfl, hk3⟩
        have hb3 := hk3.blk HB1.out (fun x => x)
        have hka : Kept S0 w3 (w3.alloc (.cells #[.int .i64 (n0 : Int), .int .i64 0, .int .i64 (n2 : Int), .int .i64 0, .int .i64 0, .int .i64 (n5 : Int), .int .i64 0] 43)) := (Kept.refl S0 w3).alloc _
        have HKZ := Lib.hid ((HK.out.then0 hk3).then0 hka)
        have k7 : (w3.alloc (.cells #[.int .i64 (n0 : Int), .int .i64 0, .int .i64 (n2 : Int), .int .i64 0, .int .i64 0, .int .i64 (n5 : Int), .int .i64 0] 43)).cell? ⟨sb, 7, none⟩ = some (.slice none 0 0) := (hka.blk hb3 (fun x => x)).cell 7
        have x7 : (w3.alloc (.cells #[.int .i64 (n0 : Int), .int .i64 0, .int .i64 (n2 : Int), .int .i64 0, .int .i64 0, .int .i64 (n5 : Int), .int .i64 0] 43)).cell? ⟨rb, 0, none⟩ = some (.pointer (some ⟨sb, 0, none⟩)) := (hka.blk (hk3.blk HX.out (fun x => x)) (fun x => x)).cell 0
        clear k0 k2 k4 k5 hx hk3 hb3 hka
        go_wp2_with fail
        generalize (w3.alloc (.cells #[.int .i64 (n0 : Int), .int .i64 0, .int .i64 (n2 : Int), .int .i64 0, .int .i64 0, .int .i64 (n5 : Int), .int .i64 0] 43)) = w4 at *
        go_loopw [83] (fun i wr2 => i = .int .i64 0 ∧ wr2 = w4) (fun _ _ => 0)
        case atStart => exact ⟨rfl, rfl⟩
        case round =>
          obtain ⟨rfl, rfl⟩ := hrel
          go_wp2_with fail
          go_ret
          exact ⟨rfl, HKZ.out⟩
end Go.Proofs.YtlnkdnmeikpckaaGreat
