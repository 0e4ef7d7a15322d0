/- An act done to a checker and to the document's: Push. No condition. -/
import Derived.Test.YtpbaojjcbpfdaaaStkBp
namespace Go.Proofs.Ytpbaojjcbpfdaaa
open Go.RowKit

section
variable {X Z Z' : Nat → Prop} {w w' : World} {sb base : Nat} {s m : St} {mv : Value}

set_option maxRecDepth 100000 in
set_option maxHeartbeats 6400000 in
theorem both_0 {A B : Option Addr} {o : Int} {n mi c k e : Nat} {v u : Nat → UInt8} {t : UInt8} (hr : Ready X Z w sb base s m mv A mi c v B k e u) : Calls Try.prog 20 #[.pointer (some ⟨sb, 0, none⟩), mv, .agg #[.int .i64 0, .int .u16 o, .int .u32 (n : Int), .int .u8 (t.toNat : Int), .slice A mi c, .slice B k e]] w fun e' w' => Done X Z w sb base s m (s.push v mi) (m.push v mi) e' w' := by
  obtain ⟨V, cv, Fa, cf, hmv⟩ : ∃ V cv Fa cf, mv = .agg #[.slice V m.n cv, .slice Fa m.k cf] := by
    obtain ⟨V, cv, Fa, cf, G, h, _⟩ := hr.mod.ex
    exact ⟨V, cv, Fa, cf, h⟩
  subst hmv
  have hkd : Kept S0 w (((w.alloc (.cells #[.slice V m.n cv, .slice Fa m.k cf] 45)).alloc (.cells #[.int .i64 0, .int .u16 o, .int .u32 (n : Int), .int .u8 (t.toNat : Int), .slice A mi c, .slice B k e] 50)).alloc (.cells #[.slice none 0 0, .slice none 0 0] 45)) := (((Kept.refl S0 w).alloc _).alloc _).alloc _
  have hbm : Blk (((w.alloc (.cells #[.slice V m.n cv, .slice Fa m.k cf] 45)).alloc (.cells #[.int .i64 0, .int .u16 o, .int .u32 (n : Int), .int .u8 (t.toNat : Int), .slice A mi c, .slice B k e] 50)).alloc (.cells #[.slice none 0 0, .slice none 0 0] 45)) w.heap.size 45 #[.slice V m.n cv, .slice Fa m.k cf] := ((Blk.new w _ _).alloc _).alloc _
  have hba : Blk (((w.alloc (.cells #[.slice V m.n cv, .slice Fa m.k cf] 45)).alloc (.cells #[.int .i64 0, .int .u16 o, .int .u32 (n : Int), .int .u8 (t.toNat : Int), .slice A mi c, .slice B k e] 50)).alloc (.cells #[.slice none 0 0, .slice none 0 0] 45)) (w.heap.size + 1) 50 #[.int .i64 0, .int .u16 o, .int .u32 (n : Int), .int .u8 (t.toNat : Int), .slice A mi c, .slice B k e] := (Blk.new1 w _ _ _).alloc _
  have hs2 : ((w.alloc (.cells #[.slice V m.n cv, .slice Fa m.k cf] 45)).alloc (.cells #[.int .i64 0, .int .u16 o, .int .u32 (n : Int), .int .u8 (t.toNat : Int), .slice A mi c, .slice B k e] 50)).heap.size = w.heap.size + 1 + 1 := by simp
  have hsz : (((w.alloc (.cells #[.slice V m.n cv, .slice Fa m.k cf] 45)).alloc (.cells #[.int .i64 0, .int .u16 o, .int .u32 (n : Int), .int .u8 (t.toNat : Int), .slice A mi c, .slice B k e] 50)).alloc (.cells #[.slice none 0 0, .slice none 0 0] 45)).heap.size = w.heap.size + 3 := by simp
  have hbr : Blk (((w.alloc (.cells #[.slice V m.n cv, .slice Fa m.k cf] 45)).alloc (.cells #[.int .i64 0, .int .u16 o, .int .u32 (n : Int), .int .u8 (t.toNat : Int), .slice A mi c, .slice B k e] 50)).alloc (.cells #[.slice none 0 0, .slice none 0 0] 45)) (w.heap.size + 1 + 1) 45 #[.slice none 0 0, .slice none 0 0] := by
    have h := Blk.new ((w.alloc (.cells #[.slice V m.n cv, .slice Fa m.k cf] 45)).alloc (.cells #[.int .i64 0, .int .u16 o, .int .u32 (n : Int), .int .u8 (t.toNat : Int), .slice A mi c, .slice B k e] 50)) 45 #[.slice none 0 0, .slice none 0 0]
    rwa [hs2] at h
  have hS1 : StkIs (((w.alloc (.cells #[.slice V m.n cv, .slice Fa m.k cf] 45)).alloc (.cells #[.int .i64 0, .int .u16 o, .int .u32 (n : Int), .int .u8 (t.toNat : Int), .slice A mi c, .slice B k e] 50)).alloc (.cells #[.slice none 0 0, .slice none 0 0] 45)) sb base X (XL Z w.heap.size 3) s := hr.stk.box hkd (fun i hi => hi.elim .inl (fun e => .inr e.1)) (fun i hi => by
    rcases hi with e | e
    · have := hr.stk.zlt i e; rw [hsz]; omega
    · rw [hsz]; omega)
  have hM1 : ModIs (XL X w.heap.size 3) (((w.alloc (.cells #[.slice V m.n cv, .slice Fa m.k cf] 45)).alloc (.cells #[.int .i64 0, .int .u16 o, .int .u32 (n : Int), .int .u8 (t.toNat : Int), .slice A mi c, .slice B k e] 50)).alloc (.cells #[.slice none 0 0, .slice none 0 0] 45)) (.agg #[.slice V m.n cv, .slice Fa m.k cf]) m := hr.mod.step (loc_in 3 hkd)
  have hxlt := hr.stk.xlt
  have hA1 := hr.inn.kept (hkd.of0 _)
  have hB1 := hr.out.kept (hkd.of0 _)
  have a1 := hba.cell 1
  have a2 := hba.cell 2
  have a3 := hba.cell 3
  have a4 := hba.cell 4
  have a5 := hba.cell 5
  have m0 := hbm.cell 0
  have m1 := hbm.cell 1
  have HR := Lib.hid hr
  have HBA := Lib.hid hba
  have HBM := Lib.hid hbm
  have HBR := Lib.hid hbr
  have HS1 := Lib.hid hS1
  have HM1 := Lib.hid hM1
  have HKD := Lib.hid hkd
  have HA1 := Lib.hid hA1
  have HB1 := Lib.hid hB1
  clear hr hs2 hbm hba hbr hS1 hM1 hkd hA1 hB1
  go_enter Try.func20, Try.ntmps20
  go_wp2_with fail
  refine wp_region_R (fun w' => w'.cell? ⟨w.heap.size, 0, none⟩ = some (.slice V m.n cv) ∧ w'.cell? ⟨w.heap.size, 1, none⟩ = some (.slice Fa m.k cf) ∧ w'.cell? ⟨w.heap.size + 1, 4, none⟩ = some (.slice A mi c)) [] (by kernel_rfl) ?_
  have hdd := (Kept.refl S0 (((w.alloc (.cells #[.slice V m.n cv, .slice Fa m.k cf] 45)).alloc (.cells #[.int .i64 0, .int .u16 o, .int .u32 (n : Int), .int .u8 (t.toNat : Int), .slice A mi c, .slice B k e] 50)).alloc (.cells #[.slice none 0 0, .slice none 0 0] 45))).drew
  have hkD := HKD.out.then0 hdd
  have hbaD := hdd.blk HBA.out (fun x => x)
  have hbmD := hdd.blk HBM.out (fun x => x)
  have hbrD := hdd.blk HBR.out (fun x => x)
  have hSD := HS1.out.kept0 hdd
  have hMD := HM1.out.kept0 hdd
  have hAD := HA1.out.kept (hdd.of0 _)
  have hszD : (World.drew (((w.alloc (.cells #[.slice V m.n cv, .slice Fa m.k cf] 45)).alloc (.cells #[.int .i64 0, .int .u16 o, .int .u32 (n : Int), .int .u8 (t.toNat : Int), .slice A mi c, .slice B k e] 50)).alloc (.cells #[.slice none 0 0, .slice none 0 0] 45))).heap.size = w.heap.size + 3 := hsz
  generalize World.drew (((w.alloc (.cells #[.slice V m.n cv, .slice Fa m.k cf] 45)).alloc (.cells #[.int .i64 0, .int .u16 o, .int .u32 (n : Int), .int .u8 (t.toNat : Int), .slice A mi c, .slice B k e] 50)).alloc (.cells #[.slice none 0 0, .slice none 0 0] 45)) = wd at *
  have hS : wd.cell? ⟨w.heap.size, 0, none⟩ = some (.slice V m.n cv) ∧ wd.cell? ⟨w.heap.size, 1, none⟩ = some (.slice Fa m.k cf) ∧ wd.cell? ⟨w.heap.size + 1, 4, none⟩ = some (.slice A mi c) := ⟨hbmD.cell 0, hbmD.cell 1, hbaD.cell 4⟩
  have hXL : ∀ i, XL X w.heap.size 3 i → i < wd.heap.size := fun i hi => by
    rcases hi with e | e
    · have := hxlt i e; omega
    · omega
  clear HBA HBM HBR HS1 HM1 HA1 HB1 a1 a2 a3 a4 a5 m0 m1
  refine wpAnyR_take 0 (v := ?_) rfl (by kernel_rfl) (by kernel_rfl) (by kernel_rfl) (by kernel_rfl) (fun _ _ _ h => h) hS ⟨by rfl, ?_⟩ ?_
  rotate_left; (intro w hSw; (try dsimp only at hSw); first | (go_simp; done) | (go_simp; with_reducible rfl))
  simp only [List.getElem_toArray, List.getElem_cons_zero, Act.put, List.setIfInBounds_toArray, List.set_cons_zero, List.set_cons_succ]
  refine wpAnyR_take 1 (v := ?_) rfl (by kernel_rfl) (by kernel_rfl) (by kernel_rfl) (by kernel_rfl) (fun _ _ _ h => h) hS ⟨by rfl, ?_⟩ ?_
  rotate_left; (intro w hSw; (try dsimp only at hSw); first | (go_simp; done) | (go_simp; with_reducible rfl))
  simp only [List.getElem_toArray, List.getElem_cons_zero, List.getElem_cons_succ, Act.put, List.setIfInBounds_toArray, List.set_cons_zero, List.set_cons_succ]
  refine wpAnyR_take 2 (v := ?_) rfl (by kernel_rfl) (by kernel_rfl) (by kernel_rfl) (by kernel_rfl) (fun _ _ _ h => h) hS ⟨by rfl, ?_⟩ ?_
  rotate_left; (intro w hSw; (try dsimp only at hSw); first | (go_simp; done) | (go_simp; with_reducible rfl))
  simp only [List.getElem_toArray, List.getElem_cons_zero, List.getElem_cons_succ, Act.put, List.setIfInBounds_toArray, List.set_cons_zero, List.set_cons_succ]
  refine wpAnyR_take 4 (v := ?_) rfl (by kernel_rfl) (by kernel_rfl) (by kernel_rfl) (by kernel_rfl) (fun _ _ _ h => h) hS ⟨by rfl, ?_⟩ ?_
  rotate_left; (intro w hSw; (try dsimp only at hSw); first | (go_simp; done) | (go_simp; with_reducible rfl))
  simp only [List.getElem_toArray, List.getElem_cons_zero, List.getElem_cons_succ, Act.put, List.setIfInBounds_toArray, List.set_cons_zero, List.set_cons_succ]
  refine wpAnyR_take 5 (v := ?_) rfl (by kernel_rfl) (by kernel_rfl) (by kernel_rfl) (by kernel_rfl) (fun _ _ _ h => h) hS ⟨by rfl, ?_⟩ ?_
  rotate_left; (intro w hSw; (try dsimp only at hSw); first | (go_simp; done) | (go_simp; with_reducible rfl))
  simp only [List.getElem_toArray, List.getElem_cons_zero, List.getElem_cons_succ, Act.put, List.setIfInBounds_toArray, List.set_cons_zero, List.set_cons_succ]
  refine wpAnyR_take 6 (v := ?_) rfl (by kernel_rfl) (by kernel_rfl) (by kernel_rfl) (by kernel_rfl) (fun _ _ _ h => h) hS ⟨by rfl, ?_⟩ ?_
  rotate_left; (intro w hSw; (try dsimp only at hSw); first | (go_simp; done) | (go_simp; with_reducible rfl))
  simp only [List.getElem_toArray, List.getElem_cons_zero, List.getElem_cons_succ, Act.put, List.setIfInBounds_toArray, List.set_cons_zero, List.set_cons_succ]
  refine wpAnyR_one 3 rfl (by kernel_rfl) (fun K hK3 => ?_)
  go_simp
  go_at_call 29
  refine (mpush_is A mi c v hMD hXL hAD.at (fun h => (hAD.none h).1) (by have := HR.out.kmod; omega) HR.out.nmod).mono ?_
  rintro e1 w2 ⟨mv2, rfl, hm2, hk2⟩
  obtain ⟨V2, cv2, Fa2, cf2, hmv⟩ : ∃ V2 cv2 Fa2 cf2, mv2 = .agg #[.slice V2 (m.push v mi).n cv2, .slice Fa2 (m.push v mi).k cf2] := by
    obtain ⟨V2, cv2, Fa2, cf2, G2, h, _⟩ := hm2.ex
    exact ⟨V2, cv2, Fa2, cf2, h⟩
  subst hmv
  have hba2 := hk2.blk hbaD (fun x => x)
  have hbm2 := hk2.blk hbmD (fun x => x)
  have hbr2 := hk2.blk hbrD (fun x => x)
  have hS2 : w2.cell? ⟨w.heap.size, 0, none⟩ = some (.slice V m.n cv) ∧ w2.cell? ⟨w.heap.size, 1, none⟩ = some (.slice Fa m.k cf) ∧ w2.cell? ⟨w.heap.size + 1, 4, none⟩ = some (.slice A mi c) := ⟨hbm2.cell 0, hbm2.cell 1, hba2.cell 4⟩
  refine hK3.out _ _ (fun _ => hS2) ?_
  clear hK3 K
  have hSt2 := hSD.kept0 hk2
  have hA2 := hAD.kept (hk2.of0 _)
  refine wpAnyR_one 7 rfl (by kernel_rfl) (fun K hK7 => ?_)
  go_simp
  go_at_call 11
  refine (push_is A mi c v hSt2 hA2.at (fun h => (hA2.none h).1) HR.out.nstk).mono ?_
  rintro e1 w3 ⟨rfl, X1, hS3s, hst⟩
  have hx1 : ∀ i, X1 i → ¬ (w.heap.size ≤ i ∧ i < w.heap.size + 3) := fun i hi e => by
    rcases hst.sub i hi with h | h
    · have := hxlt i h; omega
    · have := hk2.size; omega
  have hxb : ∀ i, w.heap.size ≤ i → ¬ X i := fun i h1 h2 => by have := hxlt i h2; omega
  have hba3 := hst.kept.blk hba2 (hxb _ (by omega))
  have hbm3 := hst.kept.blk hbm2 (hxb _ (by omega))
  have hbr3 := hst.kept.blk hbr2 (hxb _ (by omega))
  have hS3 : w3.cell? ⟨w.heap.size, 0, none⟩ = some (.slice V m.n cv) ∧ w3.cell? ⟨w.heap.size, 1, none⟩ = some (.slice Fa m.k cf) ∧ w3.cell? ⟨w.heap.size + 1, 4, none⟩ = some (.slice A mi c) := ⟨hbm3.cell 0, hbm3.cell 1, hba3.cell 4⟩
  refine hK7.out _ _ (fun _ => hS3) ?_
  clear hK7 K
  obtain ⟨wf, hwf, q1, q2, q3, q4⟩ := both_end (m' := m.push v mi) rfl (by omega) hS3s (hm2.step hst.z) ((Stp.of0 (X := X) (hkD.then0 hk2)).trans hst) hx1 hbr3
  have hks := set2 w3 (w.heap.size + 1 + 1) (.slice V2 (m.push v mi).n cv2) (.slice Fa2 (m.push v mi).k cf2)
  rw [← hwf] at hks
  have hbaf := hks.blk hba3 (fun e => by have e' : w.heap.size + 1 = w.heap.size + 1 + 1 := e; omega)
  have hbmf := hks.blk hbm3 (fun e => by have e' : w.heap.size = w.heap.size + 1 + 1 := e; omega)
  have hSf : wf.cell? ⟨w.heap.size, 0, none⟩ = some (.slice V m.n cv) ∧ wf.cell? ⟨w.heap.size, 1, none⟩ = some (.slice Fa m.k cf) ∧ wf.cell? ⟨w.heap.size + 1, 4, none⟩ = some (.slice A mi c) := ⟨hbmf.cell 0, hbmf.cell 1, hbaf.cell 4⟩
  have r0 := hbr3.cell 0
  have r1 := hbr3.cell 1
  have z0 := hbr3.frozen 0
  have z1 := hbr3.frozen 1
  have g0 := q4.cell 0
  have g1 := q4.cell 1
  have HQ := Lib.hid (And.intro q1 (And.intro q2 q3))
  have HF := Lib.hid hwf
  have HSF := Lib.hid hSf
  clear q1 q2 q3 q4 hwf hks hSf hbaf hbmf hba3 hbm3 hbr3 hba2 hbm2 hbr2 hbaD hbmD hbrD hSD hMD hAD hS hS2 hSt2 hA2 hm2 hk2 hst hS3s
  refine wpAnyR_take 8 (v := ?_) rfl (by kernel_rfl) (by kernel_rfl) (by kernel_rfl) (by kernel_rfl) (fun _ _ _ h => h) hS3 ⟨by rfl, ?_⟩ ?_
  rotate_left; (intro w hSw; (try dsimp only at hSw); first | (go_simp; done) | (go_simp; with_reducible rfl))
  simp only [List.getElem_toArray, List.getElem_cons_zero, List.getElem_cons_succ, Act.put, List.setIfInBounds_toArray, List.set_cons_zero, List.set_cons_succ]
  refine wpAnyR_one 9 rfl (by kernel_rfl) (fun K hK9 => ?_)
  go_simp
  refine hK9.out _ _ (fun _ => by rw [← HF.out]; exact HSF.out) ?_
  clear hK9 K
  rw [← HF.out]
  refine wpAnyR_late 10 (v := ?_) rfl (by kernel_rfl) (by kernel_rfl) (by kernel_rfl) (by kernel_rfl) (fun _ _ _ h => h) (fun _ => HSF.out) ⟨by rfl, ?_⟩ ?_
  rotate_left; (intro w; first | (go_simp; done) | (go_simp; with_reducible rfl))
  simp only [List.getElem_toArray, List.getElem_cons_zero, List.getElem_cons_succ, Act.put, List.setIfInBounds_toArray, List.set_cons_zero, List.set_cons_succ]
  refine wpAnyR_done (by kernel_rfl) ?_ _
  clear hS3 r0 r1 z0 z1
  go_wp2_with fail
  exact bodyPost_ret (v := .tuple #[.agg #[.slice V2 (m.push v mi).n cv2, .slice Fa2 (m.push v mi).k cf2], .bool true]) (by simp [results, Try.results20, go_sem, g0, g1]) rfl ⟨_, _, X1, rfl, fun _ => rfl, HQ.out⟩
end
end Go.Proofs.Ytpbaojjcbpfdaaa
