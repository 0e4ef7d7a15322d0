/- What the proofs lean on, part 5 of St. No condition. -/
import Derived.Test.YtlnkdnmeikpckaaGreatMSta
import Derived.Test.YtlnkdnmeikpckaaGreatMStb
import Derived.Test.YtlnkdnmeikpckaaGreatMStd
import Derived.Laws.BitsAllLaws
namespace Go.Proofs.YtlnkdnmeikpckaaGreat
open Go.RowKit
set_option maxRecDepth 100000
def u127 : Nat → UInt8 := fun _ => 127
theorem fnAt_added {w : World} {F : Nat → Value} {n : Nat} {yA zA : Option Addr} {np yc nr zc : Nat} {h : Bool} {s : ByteArray} {i b : Int} {v u : Nat → UInt8} (hp : TSl w yA np yc v) (hr : TSl w zA nr zc u) :
    FnAt w (after (n * 6) F (ecell #[.slice yA np yc, .slice zA nr zc, .bool h, .string s, .int .i64 i, .int .i64 b])) n yA np yc v zA nr zc u h s i b where
  f0 := by simp [after, ecell]
  f1 := by simp [after, ecell, show ¬ n * 6 + 1 < n * 6 by omega]
  f2 := by simp [after, ecell, show ¬ n * 6 + 2 < n * 6 by omega]
  f3 := by simp [after, ecell, show ¬ n * 6 + 3 < n * 6 by omega]
  f4 := by simp [after, ecell, show ¬ n * 6 + 4 < n * 6 by omega]
  f5 := by simp [after, ecell, show ¬ n * 6 + 5 < n * 6 by omega]
  p := hp
  r := hr
set_option maxRecDepth 100000 in
set_option maxHeartbeats 6400000 in
theorem lives_any (w : World) : Calls Tryz.prog 12 #[] w fun e w' => e = .returned (.bool true) ∧ Kept S0 w w' := by
  go_enter Tryz.func12, Tryz.ntmps12
  go_wp2_with fail
  refine (news_any w).mono ?_
  rintro e w1 ⟨rfl, hb, hk1, hsz⟩
  generalize hsb : w.heap.size = sb at *
  have HB1 := Lib.hid hb
  have HK1 := Lib.hid hk1
  clear hb hk1
  go_wp2_with fail
  have hka : Kept S0 w1 ((w1.alloc (.cells #[.int .u8 127] 27)).alloc (.cells #[.slice none 0 0, .slice (some ⟨sb + 1, 0, none⟩) 1 1] 38)) := ((Kept.refl S0 w1).alloc _).alloc _
  have hba := hka.blk HB1.out (fun x => x)
  have hl : Blk ((w1.alloc (.cells #[.int .u8 127] 27)).alloc (.cells #[.slice none 0 0, .slice (some ⟨sb + 1, 0, none⟩) 1 1] 38)) (sb + 1) 27 #[.int .u8 127] := by
    have x := (Blk.new w1 27 #[.int .u8 127]).alloc (.cells #[.slice none 0 0, .slice (some ⟨sb + 1, 0, none⟩) 1 1] 38)
    rw [hsz] at x
    exact x
  have hbx : Blk ((w1.alloc (.cells #[.int .u8 127] 27)).alloc (.cells #[.slice none 0 0, .slice (some ⟨sb + 1, 0, none⟩) 1 1] 38)) (sb + 1 + 1) 38 #[.slice none 0 0, .slice (some ⟨sb + 1, 0, none⟩) 1 1] := by
    have x := Blk.new1 w1 (.cells #[.int .u8 127] 27) 38 #[.slice none 0 0, .slice (some ⟨sb + 1, 0, none⟩) 1 1]
    rw [hsz] at x
    exact x
  have hTn : TSl ((w1.alloc (.cells #[.int .u8 127] 27)).alloc (.cells #[.slice none 0 0, .slice (some ⟨sb + 1, 0, none⟩) 1 1] 38)) none 0 0 u127 := ⟨Sl.nil _, fun _ => ⟨rfl, rfl⟩, by decide⟩
  have hTc : TSl ((w1.alloc (.cells #[.int .u8 127] 27)).alloc (.cells #[.slice none 0 0, .slice (some ⟨sb + 1, 0, none⟩) 1 1] 38)) (some ⟨sb + 1, 0, none⟩) 1 1 u127 := ⟨fun _ => ⟨sb + 1, 0, rfl, fun i hi => by
    obtain rfl : i = 0 := by omega
    exact hl.cell 0⟩, (fun h => by cases h), by decide⟩
  have hKa := Lib.hid (HK1.out.then0 hka)
  have HTc := Lib.hid hTc
  have HBX := Lib.hid hbx
  have hsa := hka.size
  have hh := host_ok none (some ⟨sb + 1, 0, none⟩) 0 0 1 1 u127 u127 { data := #[102] } hba (Own.nil _ 0 _ _ _ (fun _ => undef)) (by omega) (by omega) hTn hTc (by decide) (by decide)
  clear hka hba hl hbx hTn hTc
  generalize ((w1.alloc (.cells #[.int .u8 127] 27)).alloc (.cells #[.slice none 0 0, .slice (some ⟨sb + 1, 0, none⟩) 1 1] 38)) = wa at *
  refine hh.mono ?_
  clear hh
  rintro e w2 ⟨rfl, had⟩
  obtain ⟨⟨fl', yA, yc, zA, zc, hb2, ho2, hy2, hz2, _⟩, hk2⟩ := had
  have hF2 : FnAt w2 _ 0 yA 0 yc u127 zA 1 zc u127 true { data := #[102] } 0 0 := fnAt_added (F := fun _ => undef) (tsl_own hy2 (by decide)) (tsl_own hz2 (by decide))
  have hnst : ∀ i, sb < i → ¬ ST sb (.slice none 0 0) i := fun i hi e => by
    rcases e with e | e
    · have e' : i = sb := e
      omega
    · cases e
  have HB2 := Lib.hid hb2
  have HO2 := Lib.hid ho2
  have HF2 := Lib.hid hF2
  have HBX2 := Lib.hid (hk2.blk HBX.out (hnst _ (by omega)))
  have HTc2 : TSl w2 (some ⟨sb + 1, 0, none⟩) 1 1 u127 := by
    refine ⟨fun _ => ⟨sb + 1, 0, rfl, fun i hi => ?_⟩, HTc.out.z, HTc.out.sz⟩
    obtain ⟨b', o', hbe, hc⟩ := HTc.out.sl (by omega)
    cases hbe
    exact (hk2.cell (World.block_lt_of_cell? _ _ (hc i hi)) (hnst (sb + 1) (by omega))).trans (hc i hi)
  have HT2 := Lib.hid HTc2
  have HK2 := Lib.hid (hKa.out.trans_ hk2 (fun i e => by
    rcases e with e | e
    · exact .inr (by have e' : i = sb := e; omega)
    · cases e))
  clear hb2 ho2 hF2 hk2 hy2 hz2 HTc2
  go_wp2_with fail
  refine (getfunc_in 0 yA zA 0 yc 1 zc u127 u127 true { data := #[102] } 0 0 HB2.out HO2.out (by omega) (by omega) HF2.out).mono ?_
  rintro e w3 ⟨p, q, rfl, hp, hq, hk3⟩
  obtain ⟨pA, pc, hpe, _, _, _⟩ := hp.out
  obtain ⟨qA, qc, hqe, _, _, _⟩ := hq.out
  subst hpe hqe
  have hk4 : Kept S0 w2 (w3.alloc (.cells #[.slice pA 0 pc, .slice qA 1 qc, .bool true, .string { data := #[102] }, .int .i64 0, .int .i64 0] 51)) := hk3.alloc _
  have hb4 := hk4.blk HB2.out (fun x => x)
  have HF4 := Lib.hid (Blk.new w3 51 #[.slice pA 0 pc, .slice qA 1 qc, .bool true, .string { data := #[102] }, .int .i64 0, .int .i64 0])
  have hg := getfunc_out 1 hb4 (HO2.out.kept hk4 (fun _ _ x => x)) (by omega) (by omega)
  have HK4 := Lib.hid hk4
  have HB4 := Lib.hid hb4
  clear hp hq hk3 hk4 hb4
  go_wp2_with fail
  generalize (w3.alloc (.cells #[.slice pA 0 pc, .slice qA 1 qc, .bool true, .string { data := #[102] }, .int .i64 0, .int .i64 0] 51)) = w4 at *
  generalize hfb : w3.heap.size = fb at *
  refine hg.mono ?_
  clear hg
  rintro e w5 ⟨rfl, hk5⟩
  have hk6 : Kept S0 w4 ((w5.alloc (.cells #[.slice none 0 0, .slice none 0 0, .bool false, .string { data := #[] }, .int .i64 0, .int .i64 0] 51)).alloc (.cells #[.int .u8 0, .int .i64 0] 25)) := (hk5.alloc _).alloc _
  have g2 : ((w5.alloc (.cells #[.slice none 0 0, .slice none 0 0, .bool false, .string { data := #[] }, .int .i64 0, .int .i64 0] 51)).alloc (.cells #[.int .u8 0, .int .i64 0] 25)).cell? ⟨fb, 2, none⟩ = some (.bool true) := (hk6.blk HF4.out (fun x => x)).cell 2
  have g3 : ((w5.alloc (.cells #[.slice none 0 0, .slice none 0 0, .bool false, .string { data := #[] }, .int .i64 0, .int .i64 0] 51)).alloc (.cells #[.int .u8 0, .int .i64 0] 25)).cell? ⟨fb, 3, none⟩ = some (.string { data := #[102] }) := (hk6.blk HF4.out (fun x => x)).cell 3
  have hk26 := HK4.out.then0 hk6
  have t0 : ((w5.alloc (.cells #[.slice none 0 0, .slice none 0 0, .bool false, .string { data := #[] }, .int .i64 0, .int .i64 0] 51)).alloc (.cells #[.int .u8 0, .int .i64 0] 25)).cell? ⟨sb + 1 + 1, 0, none⟩ = some (.slice none 0 0) := (hk26.blk HBX2.out (fun x => x)).cell 0
  have t1 : ((w5.alloc (.cells #[.slice none 0 0, .slice none 0 0, .bool false, .string { data := #[] }, .int .i64 0, .int .i64 0] 51)).alloc (.cells #[.int .u8 0, .int .i64 0] 25)).cell? ⟨sb + 1 + 1, 1, none⟩ = some (.slice (some ⟨sb + 1, 0, none⟩) 1 1) := (hk26.blk HBX2.out (fun x => x)).cell 1
  have hx6 := Blk.new1 w5 (.cells #[.slice none 0 0, .slice none 0 0, .bool false, .string { data := #[] }, .int .i64 0, .int .i64 0] 51) 25 #[.int .u8 0, .int .i64 0]
  have x0 : ((w5.alloc (.cells #[.slice none 0 0, .slice none 0 0, .bool false, .string { data := #[] }, .int .i64 0, .int .i64 0] 51)).alloc (.cells #[.int .u8 0, .int .i64 0] 25)).cell? ⟨w5.heap.size + 1, 0, none⟩ = some (.int .u8 0) := hx6.cell 0
  have x1 : ((w5.alloc (.cells #[.slice none 0 0, .slice none 0 0, .bool false, .string { data := #[] }, .int .i64 0, .int .i64 0] 51)).alloc (.cells #[.int .u8 0, .int .i64 0] 25)).cell? ⟨w5.heap.size + 1, 1, none⟩ = some (.int .i64 0) := hx6.cell 1
  have HX6 := Lib.hid hx6
  have HB6 := Lib.hid (hk26.blk HB2.out (fun x => x))
  have HO6 := Lib.hid (HO2.out.kept hk26 (fun _ _ x => x))
  have HF6 := Lib.hid (HF2.out.kept hk26)
  have HT6 := Lib.hid (HT2.out.kept hk26)
  have HK6 := Lib.hid (HK2.out.then0 hk26)
  have HBX6 := Lib.hid (hk26.blk HBX2.out (fun x => x))
  clear hk5 hk6 hk26 hx6
  go_wp2_with fail
  generalize ((w5.alloc (.cells #[.slice none 0 0, .slice none 0 0, .bool false, .string { data := #[] }, .int .i64 0, .int .i64 0] 51)).alloc (.cells #[.int .u8 0, .int .i64 0] 25)) = w6 at *
  generalize w5.heap.size + 1 = xb at *
  have hf : Calls Tryz.prog 10 #[.pointer (some ⟨sb, 0, none⟩), .agg #[.int .u8 0, .int .i64 0], .agg #[.string { data := #[] }, .string { data := #[] }, .int .u8 0, .int .u32 0, .int .u8 0, .int .u32 0, .int .u32 0, .bool false, .int .u32 0, .int .u32 0, .bool false, .int .u8 0, .bool false], .agg #[.slice none 0 0, .slice (some ⟨sb + 1, 0, none⟩) 1 1]] w6 fun e w' => e = .returned (.int .i64 0) ∧ Kept S0 w6 w' := by
    have h := fits_func_in 0 0 yA zA none (some ⟨sb + 1, 0, none⟩) 0 yc 1 zc 0 0 1 1 u127 u127 u127 u127 true { data := #[102] } 0 0 #[.string { data := #[] }, .string { data := #[] }, .int .u8 0, .int .u32 0, .int .u8 0, .int .u32 0, .int .u32 0, .bool false, .int .u32 0, .int .u32 0, .bool false, .int .u8 0, .bool false] HB6.out HO6.out (by omega) (by omega) HF6.out (by rfl) ⟨Sl.nil _, fun _ => ⟨rfl, rfl⟩, by decide⟩ HT6.out
    rw [show fitF 0 (eqT 0 0 u127 u127 && eqT 1 1 u127 u127) = 0 from by decide] at h
    exact h
  refine hf.mono ?_
  clear hf
  rintro e w7 ⟨rfl, hk7⟩
  have y0 := keep0 hk7 x0
  have y1 := keep0 hk7 x1
  have HK7 := Lib.hid hk7
  have hf : Calls Tryz.prog 10 #[.pointer (some ⟨sb, 0, none⟩), .agg #[.int .u8 0, .int .i64 0], .agg #[.string { data := #[] }, .string { data := #[] }, .int .u8 0, .int .u32 0, .int .u8 0, .int .u32 0, .int .u32 0, .bool false, .int .u32 0, .int .u32 0, .bool false, .int .u8 0, .bool false], .agg #[.slice none 0 0, .slice none 0 0]] w7 fun e w' => e = .returned (.int .i64 10) ∧ Kept S0 w7 w' := by
    have h := fits_func_in 0 0 yA zA none none 0 yc 1 zc 0 0 0 0 u127 u127 u127 u127 true { data := #[102] } 0 0 #[.string { data := #[] }, .string { data := #[] }, .int .u8 0, .int .u32 0, .int .u8 0, .int .u32 0, .int .u32 0, .bool false, .int .u32 0, .int .u32 0, .bool false, .int .u8 0, .bool false] (hk7.blk HB6.out (fun x => x)) (HO6.out.kept hk7 (fun _ _ x => x)) (by omega) (by omega) (HF6.out.kept hk7) (by rfl) ⟨Sl.nil _, fun _ => ⟨rfl, rfl⟩, by decide⟩ ⟨Sl.nil _, fun _ => ⟨rfl, rfl⟩, by decide⟩
    rw [show fitF 0 (eqT 0 0 u127 u127 && eqT 1 0 u127 u127) = 10 from by decide] at h
    exact h
  clear x0 x1 hk7 t0 t1 g2 g3
  go_wp2_with fail
  refine hf.mono ?_
  clear hf
  rintro e w8 ⟨rfl, hk8⟩
  have HK8 := Lib.hid ((HK6.out.then0 HK7.out).then0 hk8)
  have ho8 := HO6.out
  obtain ⟨flA, flc, hfle, _, _, _⟩ := ho8.out
  have HB8 := Lib.hid ((HK7.out.then0 hk8).blk HB6.out (fun x => x))
  clear y0 y1 hk8 ho8
  go_wp2_with fail
  rw [hfle] at HB8
  have ht := typed_funcs HB8.out
  clear hfle
  refine ht.mono ?_
  clear ht
  rintro e w9 ⟨rfl, hk9⟩
  have HK9 := Lib.hid (HK8.out.then0 hk9)
  clear hk9
  go_wp2_with fail
  go_ret
  exact ⟨rfl, HK9.out⟩
end Go.Proofs.YtlnkdnmeikpckaaGreat
namespace Go.Proofs.YtlnkdnmeikpckaaGreat
open Go.RowKit
set_option maxRecDepth 100000
theorem Tryz.infoV : (Tryz.prog.info? 65).map (fun i => (i.zero, i.size, i.bytes)) = some (some (.agg #[.int .u8 0, .int .u64 0, .int .u64 0]), 3, 24) := by kernel_rfl
theorem Tryz.infoU8 : (Tryz.prog.info? 5).map (fun i => (i.zero, i.size, i.bytes)) = some (some (.int .u8 0), 1, 1) := by kernel_rfl
set_option maxHeartbeats 800000 in
theorem copy_b (A : Option Addr) (n c : Nat) (v : Nat → UInt8) (w : World) (hA : Sl w A (n * 1) (byteV v)) (h0 : A = none → n = 0) (hn : n * 1 ≤ 140737488351232) :
    Calls Tryz.prog 102 #[.slice A n c] w fun e w' => ∃ y, e = .returned y ∧ Own w' w.heap.size 5 1 IsByte y n (byteV v) ∧ Kept S0 w w' := by
  have hown : Own w w.heap.size 5 1 IsByte (.slice none 0 0) 0 (byteV v) := Own.nil _ _ _ _ _ _
  have HA := Lib.hid hA
  have H0 := Lib.hid h0
  clear hA h0
  go_enter Tryz.func102, Tryz.ntmps102
  go_wp2_with (at_builtin; refine wpList_append_all rfl (.tmp 4) (.tmp 5) 71 rfl w.heap.size 5 (.int .u8 0) 1 1 Tryz.underlying71 Tryz.infoU8 rfl (by decide) IsByte (fun u hu => ⟨0, by simpa [Value.cells] using hu⟩) _ 0 (byteV v) rfl hown A n c (byteV v) rfl HA.out H0.out (fun j _ => byteV_is v j) (fun _ _ => rfl) (by unfold maxLen; omega) (by omega) (by simp) ?_)
  intro v' w' ha
  have H1 := Lib.hid ha
  obtain ⟨A', c', rfl, _⟩ := ha.own.out
  have hk : Kept S0 w w' := (Kept.refl S0 w).grown ha.grown (fun k hk => by cases hk)
  have HK := Lib.hid hk
  clear hk ha
  go_wp2
  go_ret
  refine ⟨_, rfl, ?_, HK.out⟩
  exact H1.out.own.congr (fun i hi => by simp [after])
set_option maxHeartbeats 800000 in
theorem clone_b (A : Option Addr) (n c : Nat) (v : Nat → UInt8) (w : World) (hA : Sl w A (n * 1) (byteV v)) (hA0 : A = none → n = 0 ∧ c = 0) (hn : n * 1 ≤ 140737488351232) :
    Calls Tryz.prog 75 #[.slice A n c] w fun e w' => ∃ y, e = .returned y ∧ Own w' w.heap.size 5 1 IsByte y n (byteV v) ∧ Kept S0 w w' := by
  have q := fun (w : World) (a : Option Addr) (n c n' c' : Nat) => Lib.run_eql_slice_nil (P := Tryz.prog) w 71 5 a n c n' c' Tryz.underlying71
  cases A with
  | none =>
    obtain ⟨rfl, rfl⟩ := hA0 rfl
    clear hA hA0
    go_enter Tryz.func75, Tryz.ntmps75
    go_wp2
    go_ret
    exact ⟨_, rfl, Own.nil _ _ _ _ _ _, Kept.refl _ _⟩
  | some ad =>
    have hown : Own (w.alloc (.cells #[] 5)) w.heap.size 5 1 IsByte (.slice (some ⟨w.heap.size, 0, none⟩) 0 0) 0 (byteV v) :=
      .inr ⟨w.heap.size, 0, fun _ => undef, rfl, Nat.le_refl _, Nat.le_refl _, Nat.zero_le _, ⟨#[], heap_alloc_new w _, rfl, fun i hi => absurd hi (by omega)⟩, fun i hi => absurd hi (by omega), fun i hi => absurd hi (by omega)⟩
    have hsl : Sl (w.alloc (.cells #[] 5)) (some ad) (n * 1) (byteV v) := (hA.slb.kept ((Kept.refl S0 w).alloc _) (Nat.le_refl _) (fun _ h => h.elim)).sl
    clear hA hA0
    go_enter Tryz.func75, Tryz.ntmps75
    go_wp2_with (at_builtin; refine wpList_append_all rfl (.tmp 5) (.tmp 6) 71 rfl w.heap.size 5 (.int .u8 0) 1 1 Tryz.underlying71 Tryz.infoU8 rfl (by decide) IsByte (fun u hu => ⟨0, by simpa [Value.cells] using hu⟩) _ 0 (byteV v) rfl hown (some ad) n c (byteV v) rfl hsl (fun h => by cases h) (fun j _ => byteV_is v j) (fun _ _ => rfl) (by unfold maxLen; omega) (by omega) (by simp) ?_)
    intro v' w' ha
    have H1 := Lib.hid ha
    obtain ⟨A', c', rfl, _⟩ := ha.own.out
    have hk : Kept S0 w w' := ((Kept.refl S0 w).alloc (.cells #[] 5)).grown ha.grown (fun k hk => by cases hk; exact .inr (Nat.le_refl _))
    have HK := Lib.hid hk
    clear hk ha
    go_wp2
    go_ret
    refine ⟨_, rfl, ?_, HK.out⟩
    exact H1.out.own.congr (fun i hi => by simp [after])
set_option maxHeartbeats 800000 in
theorem copy_v (A : Option Addr) (n c : Nat) (v : Nat → V3) (w : World) (hA : Sl w A (n * 3) (vcell v)) (h0 : A = none → n = 0) (hn : n * 24 ≤ 140737488351232) :
    Calls Tryz.prog 100 #[.slice A n c] w fun e w' => ∃ y, e = .returned y ∧ Own w' w.heap.size 65 3 AnyV y n (vcell v) ∧ Kept S0 w w' := by
  have hown : Own w w.heap.size 65 3 AnyV (.slice none 0 0) 0 (vcell v) := Own.nil _ _ _ _ _ _
  have HA := Lib.hid hA
  have H0 := Lib.hid h0
  clear hA h0
  go_enter Tryz.func100, Tryz.ntmps100
  go_wp2_with (at_builtin; refine wpList_append_all rfl (.tmp 4) (.tmp 5) 70 rfl w.heap.size 65 (.agg #[.int .u8 0, .int .u64 0, .int .u64 0]) 3 24 Tryz.underlying70 Tryz.infoV rfl (by decide) AnyV (fun _ _ => trivial) _ 0 (vcell v) rfl hown A n c (vcell v) rfl HA.out H0.out (fun _ _ => trivial) (fun _ _ => vcell_one _ _) (by unfold maxLen; omega) (by omega) (by simp) ?_)
  intro v' w' ha
  have H1 := Lib.hid ha
  obtain ⟨A', c', rfl, _⟩ := ha.own.out
  have hk : Kept S0 w w' := (Kept.refl S0 w).grown ha.grown (fun k hk => by cases hk)
  have HK := Lib.hid hk
  clear hk ha
  go_wp2
  go_ret
  refine ⟨_, rfl, ?_, HK.out⟩
  exact H1.out.own.congr (fun i hi => by simp [after])
set_option maxHeartbeats 800000 in
theorem clone_v (A : Option Addr) (n c : Nat) (v : Nat → V3) (w : World) (hA : Sl w A (n * 3) (vcell v)) (hA0 : A = none → n = 0 ∧ c = 0) (hn : n * 24 ≤ 140737488351232) :
    Calls Tryz.prog 73 #[.slice A n c] w fun e w' => ∃ y, e = .returned y ∧ Own w' w.heap.size 65 3 AnyV y n (vcell v) ∧ Kept S0 w w' := by
  have q := fun (w : World) (a : Option Addr) (n c n' c' : Nat) => Lib.run_eql_slice_nil (P := Tryz.prog) w 70 65 a n c n' c' Tryz.underlying70
  cases A with
  | none =>
    obtain ⟨rfl, rfl⟩ := hA0 rfl
    clear hA hA0
    go_enter Tryz.func73, Tryz.ntmps73
    go_wp2
    go_ret
    exact ⟨_, rfl, Own.nil _ _ _ _ _ _, Kept.refl _ _⟩
  | some ad =>
    have hown : Own (w.alloc (.cells #[] 65)) w.heap.size 65 3 AnyV (.slice (some ⟨w.heap.size, 0, none⟩) 0 0) 0 (vcell v) :=
      .inr ⟨w.heap.size, 0, fun _ => undef, rfl, Nat.le_refl _, Nat.le_refl _, Nat.zero_le _, ⟨#[], heap_alloc_new w _, rfl, fun i hi => absurd hi (by omega)⟩, fun i hi => absurd hi (by omega), fun i hi => absurd hi (by omega)⟩
    have hsl : Sl (w.alloc (.cells #[] 65)) (some ad) (n * 3) (vcell v) := (hA.slb.kept ((Kept.refl S0 w).alloc _) (Nat.le_refl _) (fun _ h => h.elim)).sl
    clear hA hA0
    go_enter Tryz.func73, Tryz.ntmps73
    go_wp2_with (at_builtin; refine wpList_append_all rfl (.tmp 5) (.tmp 6) 70 rfl w.heap.size 65 (.agg #[.int .u8 0, .int .u64 0, .int .u64 0]) 3 24 Tryz.underlying70 Tryz.infoV rfl (by decide) AnyV (fun _ _ => trivial) _ 0 (vcell v) rfl hown (some ad) n c (vcell v) rfl hsl (fun h => by cases h) (fun _ _ => trivial) (fun _ _ => vcell_one _ _) (by unfold maxLen; omega) (by omega) (by simp) ?_)
    intro v' w' ha
    have H1 := Lib.hid ha
    obtain ⟨A', c', rfl, _⟩ := ha.own.out
    have hk : Kept S0 w w' := ((Kept.refl S0 w).alloc (.cells #[] 65)).grown ha.grown (fun k hk => by cases hk; exact .inr (Nat.le_refl _))
    have HK := Lib.hid hk
    clear hk ha
    go_wp2
    go_ret
    refine ⟨_, rfl, ?_, HK.out⟩
    exact H1.out.own.congr (fun i hi => by simp [after])
def refB (lo hi : Int) : Bool := (hi == 0) && decide (lo ≤ 4294967296)
/-- Does a value fit a reference's type? -/
def fitB (t lo hi el : Int) : Bool := (t == el) && refB lo hi
set_option maxHeartbeats 800000 in
theorem has_ref (t lo hi : Int) (w : World) (ht : t = 112 ∨ t = 111) : Calls Tryz.prog 81 #[.agg #[.int .u8 t, .int .u64 lo, .int .u64 hi]] w fun e w' => e = .returned (.bool (refB lo hi)) ∧ Kept S0 w w' := by
  by_cases hh : hi = 0
  · subst hh
    have HB := Lib.hid (show refB lo 0 = decide (lo ≤ 4294967296) by simp [refB])
    rcases ht with rfl | rfl
    all_goals
      go_enter Tryz.func81, Tryz.ntmps81
      go_wp2
      go_ret
      exact ⟨ret_bool (by rw [HB.out]), (by repeat (first | exact Kept.refl _ _ | assumption | refine Kept.drew ?_ | refine Kept.alloc ?_ _ | refine Kept.setCell ?_ (.inr (by first | exact Nat.le_refl _ | (simp; done) | omega | (simp; omega))) _))⟩
  · have h0 : (hi == 0) = false := beq_eq_false_iff_ne.2 hh
    have HB := Lib.hid (show refB lo hi = false by simp [refB, hh])
    clear hh
    rcases ht with rfl | rfl
    all_goals
      go_enter Tryz.func81, Tryz.ntmps81
      go_wp2
      go_ret
      exact ⟨ret_bool (by rw [HB.out]), (by repeat (first | exact Kept.refl _ _ | assumption | refine Kept.drew ?_ | refine Kept.alloc ?_ _ | refine Kept.setCell ?_ (.inr (by first | exact Nat.le_refl _ | (simp; done) | omega | (simp; omega))) _))⟩
def isRefB (el : Int) : Bool := (el == 112) || (el == 111)
set_option maxHeartbeats 400000 in
theorem isref_any (el : Int) (w : World) : Calls Tryz.prog 95 #[.int .u8 el] w fun e w' => e = .returned (.bool (isRefB el)) ∧ w = w' := by
  by_cases h1 : el = 112
  · subst h1
    go_enter Tryz.func95, Tryz.ntmps95
    go_wp2
    go_ret
    exact ⟨rfl, rfl⟩
  · have h2 : (el == 112) = false := beq_eq_false_iff_ne.2 h1
    have HB := Lib.hid (show isRefB el = (el == 111) by simp [isRefB, h1])
    clear h1
    go_enter Tryz.func95, Tryz.ntmps95
    go_wp2
    go_ret
    exact ⟨ret_bool (by rw [HB.out]), rfl⟩
end Go.Proofs.YtlnkdnmeikpckaaGreat
namespace Go.Proofs.YtlnkdnmeikpckaaGreat
open Go.RowKit
set_option maxRecDepth 100000
/-- A list that can be read. -/
structure LSl (w : World) (sz bytes : Nat) (A : Option Addr) (n c : Nat) (F : Nat → Value) : Prop where
  sl : Sl w A (n * sz) F
  z : A = none → n = 0 ∧ c = 0
  sm : n * bytes ≤ 140737488351232
theorem LSl.kept {w w' : World} {sz bytes : Nat} {A : Option Addr} {n c : Nat} {F : Nat → Value} (h : LSl w sz bytes A n c F) (hk : Kept S0 w w') : LSl w' sz bytes A n c F :=
  ⟨(h.sl.slb.kept hk (Nat.le_refl _) (fun _ e => e.elim)).sl, h.z, h.sm⟩
/-- Is there one that is no reference of the type? -/
def badB (v : Nat → V3) (n : Nat) (el : Int) : Bool := (List.range n).any fun i => !fitB (v i).t (v i).lo (v i).hi el
theorem badB_true {v : Nat → V3} {n i : Nat} {el : Int} (hi : i < n) (h : fitB (v i).t (v i).lo (v i).hi el = false) : badB v n el = true := by
  unfold badB; rw [List.any_eq_true]; exact ⟨i, List.mem_range.2 hi, by rw [h]; rfl⟩
theorem badB_false {v : Nat → V3} {n : Nat} {el : Int} (h : ∀ i, i < n → fitB (v i).t (v i).lo (v i).hi el = true) : badB v n el = false := by
  unfold badB; rw [List.any_eq_false]; intro i hi; rw [h i (List.mem_range.1 hi)]; simp
set_option maxHeartbeats 800000 in
theorem el1_any (x : V3) (bx : Nat) (el : Int) (w : World) (hel : el = 112 ∨ el = 111) (h0 : w.cell? ⟨bx, 0, none⟩ = some (.int .u8 el)) :
    Calls Tryz.prog 96 #[.agg #[.int .u8 x.t, .int .u64 x.lo, .int .u64 x.hi], .pointer (some ⟨bx, 0, none⟩)] w fun e w' => e = .returned (.bool (!fitB x.t x.lo x.hi el)) ∧ Kept S0 w w' := by
  have hka : Kept S0 w (w.alloc (.cells #[.int .u8 x.t, .int .u64 x.lo, .int .u64 x.hi] 65)) := (Kept.refl S0 w).alloc _
  have c0 : (w.alloc (.cells #[.int .u8 x.t, .int .u64 x.lo, .int .u64 x.hi] 65)).cell? ⟨bx, 0, none⟩ = some (.int .u8 el) := keep0 hka h0
  have hB := Blk.new w 65 #[.int .u8 x.t, .int .u64 x.lo, .int .u64 x.hi]
  have e0 : (w.alloc (.cells #[.int .u8 x.t, .int .u64 x.lo, .int .u64 x.hi] 65)).cell? ⟨w.heap.size, 0, none⟩ = some (.int .u8 x.t) := hB.cell 0
  have e1 : (w.alloc (.cells #[.int .u8 x.t, .int .u64 x.lo, .int .u64 x.hi] 65)).cell? ⟨w.heap.size, 1, none⟩ = some (.int .u64 x.lo) := hB.cell 1
  have e2 : (w.alloc (.cells #[.int .u8 x.t, .int .u64 x.lo, .int .u64 x.hi] 65)).cell? ⟨w.heap.size, 2, none⟩ = some (.int .u64 x.hi) := hB.cell 2
  have HE := Lib.hid hel
  have HK := Lib.hid hka
  clear hB hel h0 hka
  by_cases ht : x.t = el
  · have HT := Lib.hid (show fitB x.t x.lo x.hi el = refB x.lo x.hi by simp [fitB, ht])
    have HT2 := Lib.hid ht
    rw [ht] at e0
    clear ht
    obtain ⟨xt, xl, xh⟩ := x
    obtain rfl : xt = el := HT2.out
    go_enter Tryz.func96, Tryz.ntmps96
    go_wp2_with fail
    refine (has_ref _ _ _ _ HE.out).mono ?_
    rintro e w2 ⟨rfl, hk⟩
    have HK2 := Lib.hid (HK.out.then0 hk)
    clear hk c0 e0 e1 e2
    go_wp2_with fail
    go_ret
    exact ⟨ret_bool (by rw [HT.out]), HK2.out⟩
  · have HT := Lib.hid (show fitB x.t x.lo x.hi el = false by simp [fitB, ht])
    have hb : (x.t != el) = true := bne_iff_ne.2 ht
    clear ht
    go_enter Tryz.func96, Tryz.ntmps96
    go_wp2_with fail
    go_ret
    exact ⟨ret_bool (by rw [HT.out]; rfl), HK.out⟩
set_option maxHeartbeats 1600000 in
theorem index_el (A : Option Addr) (n c : Nat) (v : Nat → V3) (bx : Nat) (el : Int) (w : World) (hel : el = 112 ∨ el = 111) (hA : Sl w A (n * 3) (vcell v)) (hn : n ≤ 9223372036854775806)
    (h0 : w.cell? ⟨bx, 0, none⟩ = some (.int .u8 el)) :
    Calls Tryz.prog 80 #[.slice A n c, .func (.func 96) #[] #[.pointer (some ⟨bx, 0, none⟩)]] w fun e w' => ∃ r : Int, e = .returned (.int .i64 r) ∧ decide (0 ≤ r) = badB v n el ∧ Kept S0 w w' := by
  have HA := Lib.hid hA
  have H0 := Lib.hid h0
  clear hA h0
  go_enter Tryz.func80, Tryz.ntmps80
  go_wp2_with fail
  go_loopw [8] (fun i wr => ∃ k : Nat, k ≤ n ∧ i = .int .i64 (k : Int) ∧ (∀ j, j < k → fitB (v j).t (v j).lo (v j).hi el = true) ∧ Kept S0 w wr) (fun i _ => n - (intOf i).toNat)
  case atStart => exact ⟨0, by omega, rfl, fun j hj => absurd hj (by omega), Kept.refl S0 w⟩
  case round =>
    obtain ⟨k, hk, rfl, hfit, hkw⟩ := hrel
    by_cases hlt : k < n
    · have hA2 := (HA.out.slb.kept hkw (Nat.le_refl _) (fun _ h => h.elim)).sl
      obtain ⟨b1, o1, hAe, hc⟩ := hA2 (by omega)
      subst hAe
      have d0 : wr.cell? ⟨b1, o1 + k * 3, none⟩ = some (.int .u8 (v k).t) := by rw [← vcell_0]; exact hc _ (by omega)
      have d1 : wr.cell? ⟨b1, o1 + k * 3 + 1, none⟩ = some (.int .u64 (v k).lo) := by rw [← vcell_1, Nat.add_assoc]; exact hc _ (by omega)
      have d2 : wr.cell? ⟨b1, o1 + k * 3 + 2, none⟩ = some (.int .u64 (v k).hi) := by rw [← vcell_2, Nat.add_assoc]; exact hc _ (by omega)
      have c0 : wr.cell? ⟨bx, 0, none⟩ = some (.int .u8 el) := keep0 hkw H0.out
      have HI := Lib.hid (el1_any (v k) bx el wr hel c0)
      have HF := Lib.hid hfit
      have HK := Lib.hid hkw
      clear hc c0 hfit hkw hA2
      go_wp2_with fail
      refine HI.out.mono ?_
      rintro e w1 ⟨rfl, hk1⟩
      cases hfk : fitB (v k).t (v k).lo (v k).hi el with
      | true =>
        have HFK := Lib.hid hfk
        clear hfk
        go_wp2_with fail
        go_roundw
        case rel => exact ⟨k + 1, by omega, by go_num, fun j hj => by
          rcases Nat.lt_or_ge j k with h | h
          · exact HF.out j h
          · obtain rfl : j = k := by omega
            exact HFK.out, HK.out.then0 hk1⟩
        case measure => simp [intOf]; omega
      | false =>
        have HFK := Lib.hid hfk
        clear hfk
        go_wp2_with fail
        go_ret
        exact ⟨k, rfl, by rw [badB_true hlt HFK.out]; exact decide_eq_true (by omega), HK.out.then0 hk1⟩
    · obtain rfl : k = n := by omega
      have HF := Lib.hid hfit
      clear hfit
      go_wp2_with fail
      go_ret
      exact ⟨-1, rfl, by rw [badB_false HF.out]; rfl, hkw⟩
theorem contains_el (A : Option Addr) (n c : Nat) (v : Nat → V3) (bx : Nat) (el : Int) (w : World) (hel : el = 112 ∨ el = 111) (hA : Sl w A (n * 3) (vcell v)) (hn : n ≤ 9223372036854775806)
    (h0 : w.cell? ⟨bx, 0, none⟩ = some (.int .u8 el)) :
    Calls Tryz.prog 51 #[.slice A n c, .func (.func 96) #[] #[.pointer (some ⟨bx, 0, none⟩)]] w fun e w' => e = .returned (.bool (badB v n el)) ∧ Kept S0 w w' := by
  have HI := Lib.hid (index_el A n c v bx el w hel hA hn h0)
  clear hA h0
  go_enter Tryz.func51, Tryz.ntmps51
  go_wp2_with fail
  refine HI.out.mono ?_
  rintro e w1 ⟨r, rfl, hr, hk⟩
  have HR := Lib.hid hr
  clear hr
  go_wp2_with fail
  go_ret
  exact ⟨ret_bool HR.out, hk⟩
section
variable {w : World} {sb B n : Nat} {fl tl ml gl el dl il : Value} {F : Nat → Value}
theorem isRef_or {t : Int} (h : isRefB t = true) : t = 112 ∨ t = 111 := by
  unfold isRefB at h
  simp at h
  omega
set_option maxRecDepth 100000 in
set_option maxHeartbeats 1600000 in
theorem addelem_bad (t : Int) (A : Option Addr) (m c : Nat) (v : Nat → V3) (hb : Blk w sb 132 (stCells fl tl ml gl el dl il)) (hown : Own w B 155 2 AnyV el n F) (hn : n < 65536) (hA : LSl w 3 24 A m c (vcell v)) (hbad : isRefB t = false ∨ badB v m t = true) :
    Calls Tryz.prog 67 #[.pointer (some ⟨sb, 0, none⟩), .int .u8 t, .slice A m c] w fun e w' => e = .returned (.tuple #[.int .i64 0, .int .i64 2]) ∧ Kept S0 w w' := by
  obtain ⟨lA, lc, hlv, _, _, _⟩ := hown.out
  subst hlv
  have hka : Kept S0 w (w.alloc (.cells #[.int .u8 t] 27)) := (Kept.refl S0 w).alloc _
  have hb1 := hka.blk hb (fun x => x)
  have c0 : (w.alloc (.cells #[.int .u8 t] 27)).cell? ⟨sb, 0, none⟩ = some (.bool true) := hb1.cell 0
  have c1 : (w.alloc (.cells #[.int .u8 t] 27)).cell? ⟨sb, 5, none⟩ = some (.slice lA n lc) := hb1.cell 5
  have d0 : (w.alloc (.cells #[.int .u8 t] 27)).cell? ⟨w.heap.size, 0, none⟩ = some (.int .u8 t) := (Blk.new w 27 #[.int .u8 t]).cell 0
  have hnn : decide ((65536 : Int) ≤ (n : Int)) = false := decide_eq_false (by omega)
  have HA := Lib.hid (hA.kept hka)
  have HK := Lib.hid hka
  have HB := Lib.hid hbad
  clear hb hown hka hb1 hA hbad
  go_enter Tryz.func67, Tryz.ntmps67
  go_wp2_with fail
  refine (off_made _ _ c0).mono ?_
  rintro e w1 ⟨rfl, rfl⟩
  go_wp2_with fail
  refine (isref_any t _).mono ?_
  rintro e w1 ⟨rfl, rfl⟩
  cases hr : isRefB t with
  | false =>
    clear hr
    go_wp2_with fail
    go_ret2
    exact ⟨rfl, HK.out⟩
  | true =>
    have HR := Lib.hid (isRef_or hr)
    have HBB := Lib.hid (HB.out.resolve_left (by rw [hr]; simp))
    have HC := Lib.hid (contains_el A m c v w.heap.size t _ HR.out HA.out.sl (by have := HA.out.sm; omega) d0)
    clear hr
    go_wp2_with fail
    refine HC.out.mono ?_
    rintro e w2 ⟨rfl, hk2⟩
    rw [HBB.out]
    have HK2 := Lib.hid (HK.out.then0 hk2)
    clear hk2 c0 c1 d0
    go_wp2_with fail
    go_ret2
    exact ⟨rfl, HK2.out⟩
/-- What AddElem has done. -/
structure AddedE (w w' : World) (sb B n : Nat) (fl tl ml gl el dl il : Value) (F : Nat → Value) (t : Int) (m : Nat) (v : Nat → V3) : Prop where
  ex : ∃ el' yA yc, Blk w' sb 132 (stCells fl tl ml gl el' dl il) ∧ Own w' B 155 2 AnyV el' (n + 1) (after (n * 2) F (ecell #[.int .u8 t, .slice yA m yc])) ∧ Own w' w.heap.size 65 3 AnyV (.slice yA m yc) m (vcell v) ∧ (el'.ownBlock = el.ownBlock ∨ ∃ g, el'.ownBlock = some g ∧ w.heap.size ≤ g)
  kept : Kept (ST sb el) w w'
set_option maxRecDepth 100000 in
set_option maxHeartbeats 3200000 in
theorem addelem_ok (t : Int) (A : Option Addr) (m c : Nat) (v : Nat → V3) (hb : Blk w sb 132 (stCells fl tl ml gl el dl il)) (hown : Own w B 155 2 AnyV el n F) (hn : n < 65536) (hB : B ≤ w.heap.size) (hA : LSl w 3 24 A m c (vcell v)) (hr : isRefB t = true) (hbad : badB v m t = false) :
    Calls Tryz.prog 67 #[.pointer (some ⟨sb, 0, none⟩), .int .u8 t, .slice A m c] w fun e w' => e = .returned (.tuple #[.int .i64 (n : Int), .int .i64 0]) ∧ AddedE w w' sb B n fl tl ml gl el dl il F t m v := by
  obtain ⟨lA, lc, hlv, _, _, _⟩ := hown.out
  subst hlv
  have hka : Kept S0 w (w.alloc (.cells #[.int .u8 t] 27)) := (Kept.refl S0 w).alloc _
  have hb1 := hka.blk hb (fun x => x)
  have c0 : (w.alloc (.cells #[.int .u8 t] 27)).cell? ⟨sb, 0, none⟩ = some (.bool true) := hb1.cell 0
  have c1 : (w.alloc (.cells #[.int .u8 t] 27)).cell? ⟨sb, 5, none⟩ = some (.slice lA n lc) := hb1.cell 5
  have d0 : (w.alloc (.cells #[.int .u8 t] 27)).cell? ⟨w.heap.size, 0, none⟩ = some (.int .u8 t) := (Blk.new w 27 #[.int .u8 t]).cell 0
  have hnn : decide ((65536 : Int) ≤ (n : Int)) = false := decide_eq_false (by omega)
  have hsz : (w.alloc (.cells #[.int .u8 t] 27)).heap.size = w.heap.size + 1 := by simp
  have HSZ := Lib.hid hsz
  have hm := hA.sm
  have hfl : ∀ g, (Value.slice lA n lc).ownBlock = some g → g < w.heap.size := fun g hg => (hown.lt g hg).2
  have HFL := Lib.hid hfl
  have hsl := hb.lt
  have HA := Lib.hid hA
  have HB := Lib.hid hb
  have HO := Lib.hid hown
  have HK := Lib.hid hka
  have HR := Lib.hid (isRef_or hr)
  have HC := Lib.hid (contains_el A m c v w.heap.size t _ HR.out (hA.kept hka).sl (by omega) d0)
  have HBD := Lib.hid hbad
  clear hb hown hka hb1 hA hbad hsz hfl
  go_enter Tryz.func67, Tryz.ntmps67
  go_wp2_with fail
  refine (off_made _ _ c0).mono ?_
  rintro e w1 ⟨rfl, rfl⟩
  go_wp2_with fail
  refine (isref_any t _).mono ?_
  rintro e w1 ⟨rfl, rfl⟩
  rw [hr]
  go_wp2_with fail
  refine HC.out.mono ?_
  rintro e w2 ⟨rfl, hk2⟩
  rw [HBD.out]
  have d2 := keep0 hk2 d0
  have HK2 := Lib.hid (HK.out.then0 hk2)
  have HS2 := Lib.hid hk2.size
  clear hk2 c0 c1 d0
  go_wp2_with fail
  generalize hbx : w.heap.size = bx at *
  refine wp_region_R (fun w' => w'.cell? ⟨bx, 0, none⟩ = some (.int .u8 t)) [] (by kernel_rfl) ?_
  have hkd := (Kept.refl S0 w2).drew
  have hS : w2.drew.cell? ⟨bx, 0, none⟩ = some (.int .u8 t) := keep0 hkd d2
  have HKD := Lib.hid hkd
  clear hkd d2
  generalize w2.drew = w3 at *
  refine tkR 0 (v := ?_) rfl hS ⟨by rfl, ?_⟩ ?_
  rotate_left; (intro w hSw; (try dsimp only at hSw); first | (go_simp; done) | (go_simp; with_reducible rfl))
  simp only [zq1, zq2, Act.put, zq4, zq5, zq6]
  refine tkR 1 (v := ?_) rfl hS ⟨by rfl, ?_⟩ ?_
  rotate_left; (intro w hSw; (try dsimp only at hSw); first | (go_simp; done) | (go_simp; with_reducible rfl))
  simp only [zq1, zq2, zq3, Act.put, zq4, zq5, zq6]
  refine tkR 2 (v := ?_) rfl hS ⟨by rfl, ?_⟩ ?_
  rotate_left; (intro w hSw; (try dsimp only at hSw); first | (go_simp; done) | (go_simp; with_reducible rfl))
  simp only [zq1, zq2, zq3, Act.put, zq4, zq5, zq6]
  refine tkR 3 (v := ?_) rfl hS ⟨by rfl, ?_⟩ ?_
  rotate_left; (intro w hSw; (try dsimp only at hSw); first | (go_simp; done) | (go_simp; with_reducible rfl))
  simp only [zq1, zq2, zq3, Act.put, zq4, zq5, zq6]
  refine tkR 4 (v := ?_) rfl hS ⟨by rfl, ?_⟩ ?_
  rotate_left; (intro w hSw; (try dsimp only at hSw); first | (go_simp; done) | (go_simp; with_reducible rfl))
  simp only [zq1, zq2, zq3, Act.put, zq4, zq5, zq6]
  refine wpAnyR_one 5 rfl (by kernel_rfl) (fun K hK => ?_)
  go_simp
  go_at_call 73
  have hk3 := HK2.out.then0 HKD.out
  have hA3 := HA.out.kept hk3
  refine (clone_v A m c v w3 hA3.sl hA3.z hA3.sm).mono ?_
  rintro e w4 ⟨y, rfl, hy, hk4⟩
  obtain ⟨yA, yc, hye, _, _, _⟩ := hy.out
  subst hye
  have hS4 : w4.cell? ⟨bx, 0, none⟩ = some (.int .u8 t) := keep0 hk4 hS
  refine hK.out _ _ (fun _ => hS4) ?_
  clear hK K hS
  refine tkR 6 (v := ?_) rfl hS4 ⟨by rfl, ?_⟩ ?_
  rotate_left; (intro w hSw; (try dsimp only at hSw); first | (go_simp; done) | (go_simp; with_reducible rfl))
  simp only [zq1, zq2, zq3, Act.put, zq4, zq5, zq6]
  refine wpAnyR_one 7 rfl (by kernel_rfl) (fun K hK => ?_)
  go_simp
  go_at_call 97
  have hk5 := hk3.then0 hk4
  have hb4 := hk5.blk HB.out (fun x => x)
  have ho4 := HO.out.kept hk5 (fun _ _ x => x)
  refine (add_ELEM 5 (.int .u8 t) (.slice yA m yc) rfl rfl hb4 rfl ho4 hn (by have := hk5.size; omega)).mono ?_
  rintro e w5 ⟨rfl, el', hb5, ho5, hk6, hl5⟩
  have hyb : ∀ g, (Value.slice yA m yc).ownBlock = some g → ¬ ST sb (.slice lA n lc) g := fun g hg e => by
    have h1 := (hy.lt g hg).1
    have h2 := hk3.size
    rcases e with e | e
    · have e' : g = sb := e
      omega
    · have := HFL.out g e; omega
  have hbt : ¬ ST sb (.slice lA n lc) bx := fun e => by
    rcases e with e | e
    · have e' : bx = sb := e
      omega
    · have := HFL.out bx e; omega
  have hS5 : w5.cell? ⟨bx, 0, none⟩ = some (.int .u8 t) := (hk6.cell (World.block_lt_of_cell? _ _ hS4) hbt).trans hS4
  have HFIN := Lib.hid (show AddedE w w5 sb B n fl tl ml gl (.slice lA n lc) dl il F t m v from ⟨⟨el', yA, yc, hb5, ho5, (hy.kept hk6 hyb).mono (by have := hk3.size; omega), hl5.imp id (fun ⟨g, a, b⟩ => ⟨g, a, by have := hk5.size; omega⟩)⟩, (hk5.of0 _).trans hk6⟩)
  clear hy hk4 hk5 hb4 ho4 hb5 ho5 hk6 hl5 hyb hbt hk3 hA3
  refine hK.out _ _ (fun _ => hS5) ?_
  clear hK K hS4
  refine tkR 8 (v := ?_) rfl hS5 ⟨by rfl, ?_⟩ ?_
  rotate_left; (intro w hSw; (try dsimp only at hSw); first | (go_simp; done) | (go_simp; with_reducible rfl))
  simp only [zq1, zq2, zq3, Act.put, zq4, zq5, zq6]
  refine tkR 9 (v := ?_) rfl hS5 ⟨by rfl, ?_⟩ ?_
  rotate_left; (intro w hSw; (try dsimp only at hSw); first | (go_simp; done) | (go_simp; with_reducible rfl))
  simp only [zq1, zq2, zq3, Act.put, zq4, zq5, zq6]
  refine tkR 10 (v := ?_) rfl hS5 ⟨by rfl, ?_⟩ ?_
  rotate_left; (intro w hSw; (try dsimp only at hSw); first | (go_simp; done) | (go_simp; with_reducible rfl))
  simp only [zq1, zq2, zq3, Act.put, zq4, zq5, zq6]
  refine tkR 11 (v := ?_) rfl hS5 ⟨by rfl, ?_⟩ ?_
  rotate_left; (intro w hSw; (try dsimp only at hSw); first | (go_simp; done) | (go_simp; with_reducible rfl))
  simp only [zq1, zq2, zq3, Act.put, zq4, zq5, zq6]
  clear hS5
  refine wpAnyR_done (by kernel_rfl) ?_ _
  go_wp2_with fail
  go_ret2
  exact ⟨rfl, HFIN.out⟩
end
end Go.Proofs.YtlnkdnmeikpckaaGreat
namespace Go.Proofs.YtlnkdnmeikpckaaGreat
open Go.RowKit
set_option maxRecDepth 100000
section
variable {w : World} {sb B n : Nat} {fl tl ml gl el dl il : Value} {F : Nat → Value}
/-- What AddData has done. -/
structure AddedD (w w' : World) (sb B n : Nat) (fl tl ml gl el dl il : Value) (F : Nat → Value) (m : Nat) (v : Nat → UInt8) : Prop where
  ex : ∃ dl' yA yc, Blk w' sb 132 (stCells fl tl ml gl el dl' il) ∧ Own w' B 71 1 AnyV dl' (n + 1) (after n F (ecell #[.slice yA m yc])) ∧ Own w' w.heap.size 5 1 IsByte (.slice yA m yc) m (byteV v) ∧ (dl'.ownBlock = dl.ownBlock ∨ ∃ g, dl'.ownBlock = some g ∧ w.heap.size ≤ g)
  kept : Kept (ST sb dl) w w'
set_option maxRecDepth 100000 in
set_option maxHeartbeats 3200000 in
theorem adddata_ok (A : Option Addr) (m c : Nat) (v : Nat → UInt8) (hb : Blk w sb 132 (stCells fl tl ml gl el dl il)) (hown : Own w B 71 1 AnyV dl n F) (hn : n < 65536) (hB : B ≤ w.heap.size) (hA : LSl w 1 1 A m c (byteV v)) :
    Calls Tryz.prog 69 #[.pointer (some ⟨sb, 0, none⟩), .slice A m c] w fun e w' => e = .returned (.tuple #[.int .i64 (n : Int), .int .i64 0]) ∧ AddedD w w' sb B n fl tl ml gl el dl il F m v := by
  obtain ⟨lA, lc, hlv, _, _, _⟩ := hown.out
  subst hlv
  have c0 : w.cell? ⟨sb, 0, none⟩ = some (.bool true) := hb.cell 0
  have hfl : ∀ g, (Value.slice lA n lc).ownBlock = some g → g < w.heap.size := fun g hg => (hown.lt g hg).2
  have HFL := Lib.hid hfl
  have hsl := hb.lt
  have HA := Lib.hid hA
  have HB := Lib.hid hb
  have HO := Lib.hid hown
  clear hb hown hA hfl
  go_enter Tryz.func69, Tryz.ntmps69
  go_wp2_with fail
  refine (off_made _ _ c0).mono ?_
  rintro e w1 ⟨rfl, rfl⟩
  clear c0
  go_wp2_with fail
  refine wp_region_R (fun _ => True) [] (by kernel_rfl) ?_
  have hkd := (Kept.refl S0 w).drew
  have hS : True := trivial
  generalize w.drew = w3 at *
  refine tkR 0 (v := ?_) rfl hS ⟨by rfl, ?_⟩ ?_
  rotate_left; (intro w hSw; (try dsimp only at hSw); first | (go_simp; done) | (go_simp; with_reducible rfl))
  simp only [zq1, zq2, Act.put, zq4, zq5, zq6]
  refine tkR 1 (v := ?_) rfl hS ⟨by rfl, ?_⟩ ?_
  rotate_left; (intro w hSw; (try dsimp only at hSw); first | (go_simp; done) | (go_simp; with_reducible rfl))
  simp only [zq1, zq2, zq3, Act.put, zq4, zq5, zq6]
  refine tkR 2 (v := ?_) rfl hS ⟨by rfl, ?_⟩ ?_
  rotate_left; (intro w hSw; (try dsimp only at hSw); first | (go_simp; done) | (go_simp; with_reducible rfl))
  simp only [zq1, zq2, zq3, Act.put, zq4, zq5, zq6]
  refine tkR 3 (v := ?_) rfl hS ⟨by rfl, ?_⟩ ?_
  rotate_left; (intro w hSw; (try dsimp only at hSw); first | (go_simp; done) | (go_simp; with_reducible rfl))
  simp only [zq1, zq2, zq3, Act.put, zq4, zq5, zq6]
  refine wpAnyR_one 4 rfl (by kernel_rfl) (fun K hK => ?_)
  go_simp
  go_at_call 75
  have hA3 := HA.out.kept hkd
  refine (clone_b A m c v w3 hA3.sl hA3.z hA3.sm).mono ?_
  rintro e w4 ⟨y, rfl, hy, hk4⟩
  obtain ⟨yA, yc, hye, _, _, _⟩ := hy.out
  subst hye
  refine hK.out _ _ (fun _ => trivial) ?_
  clear hK K
  refine wpAnyR_one 5 rfl (by kernel_rfl) (fun K hK => ?_)
  go_simp
  go_at_call 101
  have hk5 := hkd.then0 hk4
  have hb4 := hk5.blk HB.out (fun x => x)
  have ho4 := HO.out.kept hk5 (fun _ _ x => x)
  refine (add_DATA 6 yA m yc hb4 rfl ho4 hn (by have := hk5.size; omega)).mono ?_
  rintro e w5 ⟨rfl, dl', hb5, ho5, hk6, hl5⟩
  have hyb : ∀ g, (Value.slice yA m yc).ownBlock = some g → ¬ ST sb (.slice lA n lc) g := fun g hg e => by
    have h1 := (hy.lt g hg).1
    have h2 := hkd.size
    rcases e with e | e
    · have e' : g = sb := e
      omega
    · have := HFL.out g e; omega
  have HFIN := Lib.hid (show AddedD w w5 sb B n fl tl ml gl el (.slice lA n lc) il F m v from ⟨⟨dl', yA, yc, hb5, ho5, (hy.kept hk6 hyb).mono (by have := hkd.size; omega), hl5.imp id (fun ⟨g, a, b⟩ => ⟨g, a, by have := hk5.size; omega⟩)⟩, (hk5.of0 _).trans hk6⟩)
  clear hy hk4 hk5 hb4 ho4 hb5 ho5 hk6 hl5 hyb hkd hA3
  refine hK.out _ _ (fun _ => trivial) ?_
  clear hK K
  refine tkR 6 (v := ?_) rfl hS ⟨by rfl, ?_⟩ ?_
  rotate_left; (intro w hSw; (try dsimp only at hSw); first | (go_simp; done) | (go_simp; with_reducible rfl))
  simp only [zq1, zq2, zq3, Act.put, zq4, zq5, zq6]
  refine tkR 7 (v := ?_) rfl hS ⟨by rfl, ?_⟩ ?_
  rotate_left; (intro w hSw; (try dsimp only at hSw); first | (go_simp; done) | (go_simp; with_reducible rfl))
  simp only [zq1, zq2, zq3, Act.put, zq4, zq5, zq6]
  refine tkR 8 (v := ?_) rfl hS ⟨by rfl, ?_⟩ ?_
  rotate_left; (intro w hSw; (try dsimp only at hSw); first | (go_simp; done) | (go_simp; with_reducible rfl))
  simp only [zq1, zq2, zq3, Act.put, zq4, zq5, zq6]
  refine tkR 9 (v := ?_) rfl hS ⟨by rfl, ?_⟩ ?_
  rotate_left; (intro w hSw; (try dsimp only at hSw); first | (go_simp; done) | (go_simp; with_reducible rfl))
  simp only [zq1, zq2, zq3, Act.put, zq4, zq5, zq6]
  clear hS
  refine wpAnyR_done (by kernel_rfl) ?_ _
  go_wp2_with fail
  go_ret2
  exact ⟨rfl, HFIN.out⟩
end
end Go.Proofs.YtlnkdnmeikpckaaGreat
