/- Contract of the statements' own 'lives'. No condition. -/
import Derived.Test.YtlnkdnmeikpckaaStH
namespace Go.Proofs.Ytlnkdnmeikpckaa
open Go.RowKit

def u127 : Nat → UInt8 := fun _ => 127

theorem fnAt_added {w : World} {F : Nat → Value} {n : Nat} {yA zA : Option Addr} {np yc nr zc : Nat} {h : Bool} {s : ByteArray} {i b : Int} {v u : Nat → UInt8} (hp : TSl w yA np yc v) (hr : TSl w zA nr zc u) :
    FnAt w (after (n * 6) F (ecell #[.slice yA np yc, .slice zA nr zc, .bool h, .string s, .int .i64 i, .int .i64 b])) n yA np yc v zA nr zc u h s i b where
  f0 := by simp [after, ecell]
  f1 := by simp [after, ecell, show ¬ n * 6 + 1 < n * 6 by omega]
  f2 := by simp [after, ecell, show ¬ n * 6 + 2 < n * 6 by omega]
  f3 := by simp [after, ecell, show ¬ n * 6 + 3 < n * 6 by omega]
  f4 := by simp [after, ecell, show ¬ n * 6 + 4 < n * 6 by omega]
  f5 := by simp [after, ecell, show ¬ n * 6 + 5 < n * 6 by omega]
  p := hp
  r := hr

set_option maxRecDepth 100000 in
set_option maxHeartbeats 6400000 in
theorem lives_any (w : World) : Calls Try.prog 20 #[] w fun e w' => e = .returned (.bool true) ∧ Kept S0 w w' := by
  go_enter Try.func20, Try.ntmps20
  go_wp2_with fail
  refine (news_any w).mono ?_
  rintro e w1 ⟨rfl, hb, hk1, hsz⟩
  generalize hsb : w.heap.size = sb at *
  have HB1 := Lib.hid hb
  have HK1 := Lib.hid hk1
  clear hb hk1
  go_wp2_with fail
  have hka : Kept S0 w1 ((w1.alloc (.cells #[.int .u8 127] 37)).alloc (.cells #[.slice none 0 0, .slice (some ⟨sb + 1, 0, none⟩) 1 1] 24)) := ((Kept.refl S0 w1).alloc _).alloc _
  have hba := hka.blk HB1.out (fun x => x)
  have hl : Blk ((w1.alloc (.cells #[.int .u8 127] 37)).alloc (.cells #[.slice none 0 0, .slice (some ⟨sb + 1, 0, none⟩) 1 1] 24)) (sb + 1) 37 #[.int .u8 127] := by
    have x := (Blk.new w1 37 #[.int .u8 127]).alloc (.cells #[.slice none 0 0, .slice (some ⟨sb + 1, 0, none⟩) 1 1] 24)
    rw [hsz] at x
    exact x
  have hbx : Blk ((w1.alloc (.cells #[.int .u8 127] 37)).alloc (.cells #[.slice none 0 0, .slice (some ⟨sb + 1, 0, none⟩) 1 1] 24)) (sb + 1 + 1) 24 #[.slice none 0 0, .slice (some ⟨sb + 1, 0, none⟩) 1 1] := by
    have x := Blk.new1 w1 (.cells #[.int .u8 127] 37) 24 #[.slice none 0 0, .slice (some ⟨sb + 1, 0, none⟩) 1 1]
    rw [hsz] at x
    exact x
  have hTn : TSl ((w1.alloc (.cells #[.int .u8 127] 37)).alloc (.cells #[.slice none 0 0, .slice (some ⟨sb + 1, 0, none⟩) 1 1] 24)) none 0 0 u127 := ⟨Sl.nil _, fun _ => ⟨rfl, rfl⟩, by decide⟩
  have hTc : TSl ((w1.alloc (.cells #[.int .u8 127] 37)).alloc (.cells #[.slice none 0 0, .slice (some ⟨sb + 1, 0, none⟩) 1 1] 24)) (some ⟨sb + 1, 0, none⟩) 1 1 u127 := ⟨fun _ => ⟨sb + 1, 0, rfl, fun i hi => by
    obtain rfl : i = 0 := by omega
    exact hl.cell 0⟩, (fun h => by cases h), by decide⟩
  have hKa := Lib.hid (HK1.out.then0 hka)
  have HTc := Lib.hid hTc
  have HBX := Lib.hid hbx
  have hsa := hka.size
  have hh := host_ok none (some ⟨sb + 1, 0, none⟩) 0 0 1 1 u127 u127 { data := #[102] } hba (Own.nil _ 0 _ _ _ (fun _ => undef)) (by omega) (by omega) hTn hTc (by decide) (by decide)
  clear hka hba hl hbx hTn hTc
  generalize ((w1.alloc (.cells #[.int .u8 127] 37)).alloc (.cells #[.slice none 0 0, .slice (some ⟨sb + 1, 0, none⟩) 1 1] 24)) = wa at *
  refine hh.mono ?_
  clear hh
  rintro e w2 ⟨rfl, had⟩
  obtain ⟨⟨fl', yA, yc, zA, zc, hb2, ho2, hy2, hz2, _⟩, hk2⟩ := had
  have hF2 : FnAt w2 _ 0 yA 0 yc u127 zA 1 zc u127 true { data := #[102] } 0 0 := fnAt_added (F := fun _ => undef) (tsl_own hy2 (by decide)) (tsl_own hz2 (by decide))
  have hnst : ∀ i, sb < i → ¬ ST sb (.slice none 0 0) i := fun i hi e => by
    rcases e with e | e
    · have e' : i = sb := e
      omega
    · cases e
  have HB2 := Lib.hid hb2
  have HO2 := Lib.hid ho2
  have HF2 := Lib.hid hF2
  have HBX2 := Lib.hid (hk2.blk HBX.out (hnst _ (by omega)))
  have HTc2 : TSl w2 (some ⟨sb + 1, 0, none⟩) 1 1 u127 := by
    refine ⟨fun _ => ⟨sb + 1, 0, rfl, fun i hi => ?_⟩, HTc.out.z, HTc.out.sz⟩
    obtain ⟨b', o', hbe, hc⟩ := HTc.out.sl (by omega)
    cases hbe
    exact (hk2.cell (World.block_lt_of_cell? _ _ (hc i hi)) (hnst (sb + 1) (by omega))).trans (hc i hi)
  have HT2 := Lib.hid HTc2
  have HK2 := Lib.hid (hKa.out.trans_ hk2 (fun i e => by
    rcases e with e | e
    · exact .inr (by have e' : i = sb := e; omega)
    · cases e))
  clear hb2 ho2 hF2 hk2 hy2 hz2 HTc2
  go_wp2_with fail
  refine (getfunc_in 0 yA zA 0 yc 1 zc u127 u127 true { data := #[102] } 0 0 HB2.out HO2.out (by omega) (by omega) HF2.out).mono ?_
  rintro e w3 ⟨p, q, rfl, hp, hq, hk3⟩
  obtain ⟨pA, pc, hpe, _, _, _⟩ := hp.out
  obtain ⟨qA, qc, hqe, _, _, _⟩ := hq.out
  subst hpe hqe
  have hk4 : Kept S0 w2 (w3.alloc (.cells #[.slice pA 0 pc, .slice qA 1 qc, .bool true, .string { data := #[102] }, .int .i64 0, .int .i64 0] 36)) := hk3.alloc _
  have hb4 := hk4.blk HB2.out (fun x => x)
  have HF4 := Lib.hid (Blk.new w3 36 #[.slice pA 0 pc, .slice qA 1 qc, .bool true, .string { data := #[102] }, .int .i64 0, .int .i64 0])
  have hg := getfunc_out 1 hb4 (HO2.out.kept hk4 (fun _ _ x => x)) (by omega) (by omega)
  have HK4 := Lib.hid hk4
  have HB4 := Lib.hid hb4
  clear hp hq hk3 hk4 hb4
  go_wp2_with fail
  generalize (w3.alloc (.cells #[.slice pA 0 pc, .slice qA 1 qc, .bool true, .string { data := #[102] }, .int .i64 0, .int .i64 0] 36)) = w4 at *
  generalize hfb : w3.heap.size = fb at *
  refine hg.mono ?_
  clear hg
  rintro e w5 ⟨rfl, hk5⟩
  have hk6 : Kept S0 w4 ((w5.alloc (.cells #[.slice none 0 0, .slice none 0 0, .bool false, .string { data := #[] }, .int .i64 0, .int .i64 0] 36)).alloc (.cells #[.int .u8 0, .int .i64 0] 116)) := (hk5.alloc _).alloc _
  have g2 : ((w5.alloc (.cells #[.slice none 0 0, .slice none 0 0, .bool false, .string { data := #[] }, .int .i64 0, .int .i64 0] 36)).alloc (.cells #[.int .u8 0, .int .i64 0] 116)).cell? ⟨fb, 2, none⟩ = some (.bool true) := (hk6.blk HF4.out (fun x => x)).cell 2
  have g3 : ((w5.alloc (.cells #[.slice none 0 0, .slice none 0 0, .bool false, .string { data := #[] }, .int .i64 0, .int .i64 0] 36)).alloc (.cells #[.int .u8 0, .int .i64 0] 116)).cell? ⟨fb, 3, none⟩ = some (.string { data := #[102] }) := (hk6.blk HF4.out (fun x => x)).cell 3
  have hk26 := HK4.out.then0 hk6
  have t0 : ((w5.alloc (.cells #[.slice none 0 0, .slice none 0 0, .bool false, .string { data := #[] }, .int .i64 0, .int .i64 0] 36)).alloc (.cells #[.int .u8 0, .int .i64 0] 116)).cell? ⟨sb + 1 + 1, 0, none⟩ = some (.slice none 0 0) := (hk26.blk HBX2.out (fun x => x)).cell 0
  have t1 : ((w5.alloc (.cells #[.slice none 0 0, .slice none 0 0, .bool false, .string { data := #[] }, .int .i64 0, .int .i64 0] 36)).alloc (.cells #[.int .u8 0, .int .i64 0] 116)).cell? ⟨sb + 1 + 1, 1, none⟩ = some (.slice (some ⟨sb + 1, 0, none⟩) 1 1) := (hk26.blk HBX2.out (fun x => x)).cell 1
  have hx6 := Blk.new1 w5 (.cells #[.slice none 0 0, .slice none 0 0, .bool false, .string { data := #[] }, .int .i64 0, .int .i64 0] 36) 116 #[.int .u8 0, .int .i64 0]
  have x0 : ((w5.alloc (.cells #[.slice none 0 0, .slice none 0 0, .bool false, .string { data := #[] }, .int .i64 0, .int .i64 0] 36)).alloc (.cells #[.int .u8 0, .int .i64 0] 116)).cell? ⟨w5.heap.size + 1, 0, none⟩ = some (.int .u8 0) := hx6.cell 0
  have x1 : ((w5.alloc (.cells #[.slice none 0 0, .slice none 0 0, .bool false, .string { data := #[] }, .int .i64 0, .int .i64 0] 36)).alloc (.cells #[.int .u8 0, .int .i64 0] 116)).cell? ⟨w5.heap.size + 1, 1, none⟩ = some (.int .i64 0) := hx6.cell 1
  have HX6 := Lib.hid hx6
  have HB6 := Lib.hid (hk26.blk HB2.out (fun x => x))
  have HO6 := Lib.hid (HO2.out.kept hk26 (fun _ _ x => x))
  have HF6 := Lib.hid (HF2.out.kept hk26)
  have HT6 := Lib.hid (HT2.out.kept hk26)
  have HK6 := Lib.hid (HK2.out.then0 hk26)
  have HBX6 := Lib.hid (hk26.blk HBX2.out (fun x => x))
  clear hk5 hk6 hk26 hx6
  go_wp2_with fail
  generalize ((w5.alloc (.cells #[.slice none 0 0, .slice none 0 0, .bool false, .string { data := #[] }, .int .i64 0, .int .i64 0] 36)).alloc (.cells #[.int .u8 0, .int .i64 0] 116)) = w6 at *
  generalize w5.heap.size + 1 = xb at *
  have hf : Calls Try.prog 32 #[.pointer (some ⟨sb, 0, none⟩), .agg #[.int .u8 0, .int .i64 0], .agg #[.string { data := #[] }, .string { data := #[] }, .int .u8 0, .int .u32 0, .int .u8 0, .int .u32 0, .int .u32 0, .bool false, .int .u32 0, .int .u32 0, .bool false, .int .u8 0, .bool false], .agg #[.slice none 0 0, .slice (some ⟨sb + 1, 0, none⟩) 1 1]] w6 fun e w' => e = .returned (.int .i64 0) ∧ Kept S0 w6 w' := by
    have h := fits_func_in 0 0 yA zA none (some ⟨sb + 1, 0, none⟩) 0 yc 1 zc 0 0 1 1 u127 u127 u127 u127 true { data := #[102] } 0 0 #[.string { data := #[] }, .string { data := #[] }, .int .u8 0, .int .u32 0, .int .u8 0, .int .u32 0, .int .u32 0, .bool false, .int .u32 0, .int .u32 0, .bool false, .int .u8 0, .bool false] HB6.out HO6.out (by omega) (by omega) HF6.out (by rfl) ⟨Sl.nil _, fun _ => ⟨rfl, rfl⟩, by decide⟩ HT6.out
    rw [show fitF 0 (eqT 0 0 u127 u127 && eqT 1 1 u127 u127) = 0 from by decide] at h
    exact h
  refine hf.mono ?_
  clear hf
  rintro e w7 ⟨rfl, hk7⟩
  have y0 := keep0 hk7 x0
  have y1 := keep0 hk7 x1
  have HK7 := Lib.hid hk7
  have hf : Calls Try.prog 32 #[.pointer (some ⟨sb, 0, none⟩), .agg #[.int .u8 0, .int .i64 0], .agg #[.string { data := #[] }, .string { data := #[] }, .int .u8 0, .int .u32 0, .int .u8 0, .int .u32 0, .int .u32 0, .bool false, .int .u32 0, .int .u32 0, .bool false, .int .u8 0, .bool false], .agg #[.slice none 0 0, .slice none 0 0]] w7 fun e w' => e = .returned (.int .i64 10) ∧ Kept S0 w7 w' := by
    have h := fits_func_in 0 0 yA zA none none 0 yc 1 zc 0 0 0 0 u127 u127 u127 u127 true { data := #[102] } 0 0 #[.string { data := #[] }, .string { data := #[] }, .int .u8 0, .int .u32 0, .int .u8 0, .int .u32 0, .int .u32 0, .bool false, .int .u32 0, .int .u32 0, .bool false, .int .u8 0, .bool false] (hk7.blk HB6.out (fun x => x)) (HO6.out.kept hk7 (fun _ _ x => x)) (by omega) (by omega) (HF6.out.kept hk7) (by rfl) ⟨Sl.nil _, fun _ => ⟨rfl, rfl⟩, by decide⟩ ⟨Sl.nil _, fun _ => ⟨rfl, rfl⟩, by decide⟩
    rw [show fitF 0 (eqT 0 0 u127 u127 && eqT 1 0 u127 u127) = 10 from by decide] at h
    exact h
  clear x0 x1 hk7 t0 t1 g2 g3
  go_wp2_with fail
  refine hf.mono ?_
  clear hf
  rintro e w8 ⟨rfl, hk8⟩
  have HK8 := Lib.hid ((HK6.out.then0 HK7.out).then0 hk8)
  have ho8 := HO6.out
  obtain ⟨flA, flc, hfle, _, _, _⟩ := ho8.out
  have HB8 := Lib.hid ((HK7.out.then0 hk8).blk HB6.out (fun x => x))
  clear y0 y1 hk8 ho8
  go_wp2_with fail
  rw [hfle] at HB8
  have ht := typed_funcs HB8.out
  clear hfle
  refine ht.mono ?_
  clear ht
  rintro e w9 ⟨rfl, hk9⟩
  have HK9 := Lib.hid (HK8.out.then0 hk9)
  clear hk9
  go_wp2_with fail
  go_ret
  exact ⟨rfl, HK9.out⟩
end Go.Proofs.Ytlnkdnmeikpckaa
