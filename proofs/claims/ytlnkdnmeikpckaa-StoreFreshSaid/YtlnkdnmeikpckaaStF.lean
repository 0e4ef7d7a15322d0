/- Contracts of a store's Fits, of functions. No condition. -/
import Derived.Test.YtlnkdnmeikpckaaStE
namespace Go.Proofs.Ytlnkdnmeikpckaa
open Go.RowKit

section
variable {w : World} {sb B n : Nat} {fl tl ml gl el dl il : Value} {F : Nat → Value}

/-- What Fits answers of a function. -/
def fitF (k : Int) (same : Bool) : Int := if k = 0 ∧ same = true then 0 else 10

set_option maxRecDepth 100000 in
set_option maxHeartbeats 3200000 in
theorem fits_func_in (aa : Nat) (k : Int) (A C P R : Option Addr) (np c nr d mp cp mr cr : Nat) (v u pv ru : Nat → UInt8) (h : Bool) (s : ByteArray) (i b : Int) (im : Array Value) (hb : Blk w sb 95 (stCells fl tl ml gl el dl il)) (hown : Own w B 36 6 AnyV fl n F) (hn : n ≤ 65536) (ha : aa < n) (hF : FnAt w F aa A np c v C nr d u h s i b) (him : im[2]? = some (.int .u8 k)) (hP : TSl w P mp cp pv) (hR : TSl w R mr cr ru) :
    Calls Try.prog 32 #[.pointer (some ⟨sb, 0, none⟩), .agg #[.int .u8 0, .int .i64 (aa : Int)], .agg im, .agg #[.slice P mp cp, .slice R mr cr]] w fun e w' => e = .returned (.int .i64 (fitF k (eqT np mp v pv && eqT nr mr u ru))) ∧ Kept S0 w w' := by
  obtain ⟨a, haa⟩ : ∃ a : Int, a = (aa : Int) := ⟨_, rfl⟩
  rw [← haa]
  have HAA := Lib.hid haa
  clear haa
  have hk1 : Kept S0 w (((w.alloc (.cells #[.int .u8 0, .int .i64 a] 116)).alloc (.cells im 118)).alloc (.cells #[.slice P mp cp, .slice R mr cr] 24)) := (((Kept.refl S0 w).alloc _).alloc _).alloc _
  have hk2 : Kept S0 w ((((w.alloc (.cells #[.int .u8 0, .int .i64 a] 116)).alloc (.cells im 118)).alloc (.cells #[.slice P mp cp, .slice R mr cr] 24)).alloc (.cells #[.slice none 0 0, .slice none 0 0, .bool false, .string { data := #[] }, .int .i64 0, .int .i64 0] 36)) := hk1.alloc _
  have hE := (Blk.new w 116 #[.int .u8 0, .int .i64 a]).alloc (.cells im 118) |>.alloc (.cells #[.slice P mp cp, .slice R mr cr] 24)
  have hI := (Blk.new1 w (.cells #[.int .u8 0, .int .i64 a] 116) 118 im).alloc (.cells #[.slice P mp cp, .slice R mr cr] 24)
  have hT : Blk (((w.alloc (.cells #[.int .u8 0, .int .i64 a] 116)).alloc (.cells im 118)).alloc (.cells #[.slice P mp cp, .slice R mr cr] 24)) (w.heap.size + 1 + 1) 24 #[.slice P mp cp, .slice R mr cr] := by have x := Blk.new1 (w.alloc (.cells #[.int .u8 0, .int .i64 a] 116)) (.cells im 118) 24 #[.slice P mp cp, .slice R mr cr]; simpa using x
  have hX : Blk ((((w.alloc (.cells #[.int .u8 0, .int .i64 a] 116)).alloc (.cells im 118)).alloc (.cells #[.slice P mp cp, .slice R mr cr] 24)).alloc (.cells #[.slice none 0 0, .slice none 0 0, .bool false, .string { data := #[] }, .int .i64 0, .int .i64 0] 36)) (w.heap.size + 1 + 1 + 1) 36 #[.slice none 0 0, .slice none 0 0, .bool false, .string { data := #[] }, .int .i64 0, .int .i64 0] := by have x := Blk.new (((w.alloc (.cells #[.int .u8 0, .int .i64 a] 116)).alloc (.cells im 118)).alloc (.cells #[.slice P mp cp, .slice R mr cr] 24)) 36 #[.slice none 0 0, .slice none 0 0, .bool false, .string { data := #[] }, .int .i64 0, .int .i64 0]; simpa using x
  have hb1 := hk1.blk hb (fun x => x)
  have c0 := hb1.cell 0
  have e0 := hE.cell 0
  have HE := Lib.hid (hE.alloc (.cells #[.slice none 0 0, .slice none 0 0, .bool false, .string { data := #[] }, .int .i64 0, .int .i64 0] 36))
  have HI := Lib.hid (hI.alloc (.cells #[.slice none 0 0, .slice none 0 0, .bool false, .string { data := #[] }, .int .i64 0, .int .i64 0] 36))
  have HT := Lib.hid (hT.alloc (.cells #[.slice none 0 0, .slice none 0 0, .bool false, .string { data := #[] }, .int .i64 0, .int .i64 0] 36))
  have HX := Lib.hid hX
  have HB2 := Lib.hid (hk2.blk hb (fun x => x))
  have HO2 := Lib.hid (hown.kept hk2 (fun _ _ x => x))
  have HF2 := Lib.hid (hF.kept hk2)
  have HP := Lib.hid hP
  have HR := Lib.hid hR
  have hsz : ((((w.alloc (.cells #[.int .u8 0, .int .i64 a] 116)).alloc (.cells im 118)).alloc (.cells #[.slice P mp cp, .slice R mr cr] 24)).alloc (.cells #[.slice none 0 0, .slice none 0 0, .bool false, .string { data := #[] }, .int .i64 0, .int .i64 0] 36)).heap.size = w.heap.size + 4 := by simp
  have HSZ := Lib.hid hsz
  have HK2 := Lib.hid hk2
  have e1 := HE.out.cell 1
  have HIM := Lib.hid him
  have hpsz := hF.p.sz
  have hrsz := hF.r.sz
  clear hb hown hF him hP hR hk1 hk2 hE hI hT hX hb1 hsz
  go_enter Try.func32, Try.ntmps32
  go_wp2_with fail
  refine (off_made _ _ c0).mono ?_
  rintro e w1 ⟨rfl, rfl⟩
  clear c0
  go_wp2_with fail
  clear e0
  obtain rfl := HAA.out
  refine (getfunc_in aa A C np c nr d v u h s i b HB2.out HO2.out hn ha HF2.out).mono ?_
  rintro e w3 ⟨y, z, rfl, hy, hz, hk3⟩
  obtain ⟨yA, yc, hye, _, _, _⟩ := hy.out
  obtain ⟨zA, zc, hze, _, _, _⟩ := hz.out
  subst hye hze
  clear e1
  generalize hxb : w.heap.size = xb at *
  generalize hb3 : xb + 1 + 1 + 1 = x3 at *
  generalize hb2 : xb + 1 + 1 = x2 at *
  generalize hb1 : xb + 1 = x1 at *
  have hq3 : xb + 3 = x3 := by omega
  have hq2 : xb + 2 = x2 := by omega
  clear hb3 hb2
  have hx3 := hk3.blk HX.out (fun x => x)
  have f0 := hx3.frozen 0
  have g0 : w3.cell? ⟨x3, 0, none⟩ = some (.slice none 0 0) := hx3.cell 0
  have f1 := hx3.frozen 1
  have g1 : w3.cell? ⟨x3, 1, none⟩ = some (.slice none 0 0) := hx3.cell 1
  have f2 := hx3.frozen 2
  have g2 : w3.cell? ⟨x3, 2, none⟩ = some (.bool false) := hx3.cell 2
  have f3 := hx3.frozen 3
  have g3 : w3.cell? ⟨x3, 3, none⟩ = some (.string { data := #[] }) := hx3.cell 3
  have f4 := hx3.frozen 4
  have g4 : w3.cell? ⟨x3, 4, none⟩ = some (.int .i64 0) := hx3.cell 4
  have f5 := hx3.frozen 5
  have g5 : w3.cell? ⟨x3, 5, none⟩ = some (.int .i64 0) := hx3.cell 5
  have hk4 := (((((((Kept.refl (S1 (x3)) w3).setCell (p := ⟨x3, 0, none⟩) (.inl rfl) (.slice yA np yc)).setCell (p := ⟨x3, 1, none⟩) (.inl rfl) (.slice zA nr zc)).setCell (p := ⟨x3, 2, none⟩) (.inl rfl) (.bool h)).setCell (p := ⟨x3, 3, none⟩) (.inl rfl) (.string s)).setCell (p := ⟨x3, 4, none⟩) (.inl rfl) (.int .i64 i)).setCell (p := ⟨x3, 5, none⟩) (.inl rfl) (.int .i64 b))
  have hx4 : Blk ((((((w3.setCell ⟨x3, 0, none⟩ (.slice yA np yc)).setCell ⟨x3, 1, none⟩ (.slice zA nr zc)).setCell ⟨x3, 2, none⟩ (.bool h)).setCell ⟨x3, 3, none⟩ (.string s)).setCell ⟨x3, 4, none⟩ (.int .i64 i)).setCell ⟨x3, 5, none⟩ (.int .i64 b)) (x3) 36 #[.slice yA np yc, .slice zA nr zc, .bool h, .string s, .int .i64 i, .int .i64 b] := ((((((hx3.set_ 0 (.slice yA np yc)).set_ 1 (.slice zA nr zc)).set_ 2 (.bool h)).set_ 3 (.string s)).set_ 4 (.int .i64 i)).set_ 5 (.int .i64 b))
  have hE4 : Blk ((((((w3.setCell ⟨x3, 0, none⟩ (.slice yA np yc)).setCell ⟨x3, 1, none⟩ (.slice zA nr zc)).setCell ⟨x3, 2, none⟩ (.bool h)).setCell ⟨x3, 3, none⟩ (.string s)).setCell ⟨x3, 4, none⟩ (.int .i64 i)).setCell ⟨x3, 5, none⟩ (.int .i64 b)) xb 116 #[.int .u8 0, .int .i64 (aa : Int)] := hk4.blk (hk3.blk HE.out (fun x => x)) (fun e => by have e' : xb = x3 := e; omega)
  have hI4 : Blk ((((((w3.setCell ⟨x3, 0, none⟩ (.slice yA np yc)).setCell ⟨x3, 1, none⟩ (.slice zA nr zc)).setCell ⟨x3, 2, none⟩ (.bool h)).setCell ⟨x3, 3, none⟩ (.string s)).setCell ⟨x3, 4, none⟩ (.int .i64 i)).setCell ⟨x3, 5, none⟩ (.int .i64 b)) x1 118 im := hk4.blk (hk3.blk HI.out (fun x => x)) (fun e => by have e' : x1 = x3 := e; omega)
  have hT4 : Blk ((((((w3.setCell ⟨x3, 0, none⟩ (.slice yA np yc)).setCell ⟨x3, 1, none⟩ (.slice zA nr zc)).setCell ⟨x3, 2, none⟩ (.bool h)).setCell ⟨x3, 3, none⟩ (.string s)).setCell ⟨x3, 4, none⟩ (.int .i64 i)).setCell ⟨x3, 5, none⟩ (.int .i64 b)) (x2) 24 #[.slice P mp cp, .slice R mr cr] := hk4.blk (hk3.blk HT.out (fun x => x)) (fun e => by have e' : x2 = x3 := e; omega)
  have hyk := hy.kept hk4 (fun g hg e => by have e' : g = x3 := e; have h1 := (hy.lt g hg).1; have := HSZ.out; omega)
  have hzk := hz.kept hk4 (fun g hg e => by have e' : g = x3 := e; have h1 := (hz.lt g hg).1; have := HSZ.out; omega)
  have HKK := Lib.hid ((HK2.out.then0 hk3).trans_ hk4 (fun i e => .inr (by have e' : i = x3 := e; omega)))
  have hP4 := HP.out.kept HKK.out
  have hR4 := HR.out.kept HKK.out
  have HE4 := Lib.hid hE4
  have HI4 := Lib.hid hI4
  have HIK := Lib.hid (show ((((((w3.setCell ⟨x3, 0, none⟩ (.slice yA np yc)).setCell ⟨x3, 1, none⟩ (.slice zA nr zc)).setCell ⟨x3, 2, none⟩ (.bool h)).setCell ⟨x3, 3, none⟩ (.string s)).setCell ⟨x3, 4, none⟩ (.int .i64 i)).setCell ⟨x3, 5, none⟩ (.int .i64 b)).cell? ⟨x1, 2, none⟩ = some (.int .u8 k) from (hI4.cell 2).trans HIM.out)
  have s0 : ((((((w3.setCell ⟨x3, 0, none⟩ (.slice yA np yc)).setCell ⟨x3, 1, none⟩ (.slice zA nr zc)).setCell ⟨x3, 2, none⟩ (.bool h)).setCell ⟨x3, 3, none⟩ (.string s)).setCell ⟨x3, 4, none⟩ (.int .i64 i)).setCell ⟨x3, 5, none⟩ (.int .i64 b)).cell? ⟨x3, 0, none⟩ = some (.slice yA np yc) := hx4.cell 0
  have s1 : ((((((w3.setCell ⟨x3, 0, none⟩ (.slice yA np yc)).setCell ⟨x3, 1, none⟩ (.slice zA nr zc)).setCell ⟨x3, 2, none⟩ (.bool h)).setCell ⟨x3, 3, none⟩ (.string s)).setCell ⟨x3, 4, none⟩ (.int .i64 i)).setCell ⟨x3, 5, none⟩ (.int .i64 b)).cell? ⟨x3, 1, none⟩ = some (.slice zA nr zc) := hx4.cell 1
  have s2 : ((((((w3.setCell ⟨x3, 0, none⟩ (.slice yA np yc)).setCell ⟨x3, 1, none⟩ (.slice zA nr zc)).setCell ⟨x3, 2, none⟩ (.bool h)).setCell ⟨x3, 3, none⟩ (.string s)).setCell ⟨x3, 4, none⟩ (.int .i64 i)).setCell ⟨x3, 5, none⟩ (.int .i64 b)).cell? ⟨x2, 0, none⟩ = some (.slice P mp cp) := hT4.cell 0
  have s3 : ((((((w3.setCell ⟨x3, 0, none⟩ (.slice yA np yc)).setCell ⟨x3, 1, none⟩ (.slice zA nr zc)).setCell ⟨x3, 2, none⟩ (.bool h)).setCell ⟨x3, 3, none⟩ (.string s)).setCell ⟨x3, 4, none⟩ (.int .i64 i)).setCell ⟨x3, 5, none⟩ (.int .i64 b)).cell? ⟨x2, 1, none⟩ = some (.slice R mr cr) := hT4.cell 1
  have HSM := Lib.hid (same_any yA zA P R np nr mp mr yc zc cp cr v u pv ru ((((((w3.setCell ⟨x3, 0, none⟩ (.slice yA np yc)).setCell ⟨x3, 1, none⟩ (.slice zA nr zc)).setCell ⟨x3, 2, none⟩ (.bool h)).setCell ⟨x3, 3, none⟩ (.string s)).setCell ⟨x3, 4, none⟩ (.int .i64 i)).setCell ⟨x3, 5, none⟩ (.int .i64 b)) (tsl_own hyk hpsz) (tsl_own hzk hrsz) hP4 hR4)
  clear hk4 hx4 hE4 hI4 hT4 hyk hzk hP4 hR4 hy hz hk3 hx3
  go_wp2_with fail
  refine HSM.out.mono ?_
  rintro e w5 ⟨rfl, hk5⟩
  have hkk5 := HKK.out.then0 hk5
  have e0 := (hk5.blk HE4.out (fun x => x)).cell 0
  have i2 := keep0 hk5 HIK.out
  have HK5 := Lib.hid hkk5
  clear hkk5 hk5 s0 s1 s2 s3 f0 f1 f2 f3 f4 f5 g0 g1 g2 g3 g4 g5
  cases hs : (eqT np mp v pv && eqT nr mr u ru) with
  | false =>
    have HS := Lib.hid hs
    clear hs
    have HR5 : fitF k false = 10 := by simp [fitF]
    by_cases hk : k = 0
    · subst hk
      go_wp2_with fail
      go_ret
      exact ⟨ret_int (by rw [HS.out, HR5]), HK5.out⟩
    · have hk1 : ((0 : Int) != k) = true := bne_iff_ne.2 (fun e => hk e.symm)
      clear hk
      go_wp2_with fail
      go_ret
      exact ⟨ret_int (by rw [HS.out, HR5]), HK5.out⟩
  | true =>
    have HS := Lib.hid hs
    clear hs
    by_cases hk : k = 0
    · subst hk
      go_wp2_with fail
      go_ret
      exact ⟨ret_int (by rw [HS.out]; rfl), HK5.out⟩
    · have HR5 : fitF k true = 10 := by simp [fitF, hk]
      have hk1 : ((0 : Int) != k) = true := bne_iff_ne.2 (fun e => hk e.symm)
      clear hk
      go_wp2_with fail
      go_ret
      exact ⟨ret_int (by rw [HS.out, HR5]), HK5.out⟩
end
end Go.Proofs.Ytlnkdnmeikpckaa
