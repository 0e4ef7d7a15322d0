/- What the proofs lean on, part 3 of Fm. No condition. -/
import Derived.Test.YtfmblalbcodpmaaDoorMDoa
import Derived.Test.YtfmblalbcodpmaaDoorMDob
import Derived.Test.YtfmblalbcodpmaaDoorMDod
import Derived.Test.YtfmblalbcodpmaaDoorMDoh
import Derived.Test.YtfmblalbcodpmaaDoorMFma
import Derived.Test.YtfmblalbcodpmaaDoorMFmb
namespace Go.Proofs.YtfmblalbcodpmaaDoor
open Go.RowKit
section
variable {P : Program}
theorem exec_load_cells {o : Oper} {a : Act} (ty : TypeId) (x : Operand) (ho : o.op = .load ty x) (w : World) (p : Addr) (hx : a.eval x = .pointer (some p)) (cs : Array Value) (d : TypeDesc) (hc : ∀ j, j < cs.size → w.cell? (p.add j) = cs[j]?)
    (hu : P.underlying ty = some d) (hd : (match d with | .struct _ | .array _ _ => true | _ => false) = true) (hi : (P.info? ty).map (·.size) = some cs.size) : (execOp a.eval o).run P w = .ok (.value (.agg cs)) w := by
  unfold execOp
  simp only [ho, hx, Instr.loadAt, Instr.sureAddr, Sem.run_bind, Sem.run_pure, Result.andThen_ok, run_loadVar_cells w p ty cs d hc hu hd hi]
end
def flatZ : Array Value := #[.int .u16 0, .int .u32 0, .int .u32 0, .int .u64 0, .int .u8 0, .int .u8 0, .int .u8 0, .int .u8 0, .int .u8 0, .int .u8 0, .int .u8 0, .int .u8 0, .int .u8 0, .int .u8 0, .int .u8 0, .int .u8 0, .int .u8 0, .int .u8 0, .int .u8 0, .int .u8 0, .slice none 0 0, .int .i64 0, .int .i64 0, .int .i64 0, .slice none 0 0]
set_option maxRecDepth 100000 in
set_option maxHeartbeats 16000000 in
theorem step_any (w0 : World) (W hb : Nat) (c : CC) (p : CtxP) (xA : Option Addr) (xn xc : Nat) (l : List FlP) (H : Int) (wv : Value) (s : WP) (k : Nat) (x : FlP) (h_ : Int) (w : World) (h : WAt w0 w W hb c xA xn xc H wv s) (hc : CtxAt w0 c p) (hl : SlFl w0 xA xn xc l) (hsp : SpTab w0)
    (hx : l[k]? = some x) (hk : s.high[k]? = some h_) (hh : 0 ≤ h_ ∧ h_ ≤ 4611686018427387904) (hm : phi s ≤ 1000000000000) :
    Calls Tryd.prog 29 #[.pointer (some ⟨W, 0, none⟩), .int .i64 (k : Int)] w fun e w' => e = .returned (.tuple #[]) ∧ ∃ wv', WAt w0 w' W hb c xA xn xc H wv' (stepP xn H p x s (k : Int) h_) := by
  have hkn : k < xn := by
    have h1 := (List.getElem?_eq_some_iff.1 hx).1
    have h2 := hl.len
    omega
  obtain ⟨b, o, rfl, hrow⟩ := hl.at_ (by omega)
  obtain ⟨f, hf, hfl⟩ := hrow k x hx
  have c11 : w.cell? ⟨W, 11, none⟩ = some (.slice (some ⟨b, o, none⟩) xn xc) := h.blk.cell 11
  have c13 : w.cell? ⟨W, 13, none⟩ = some (.slice (some ⟨hb, 0, none⟩) xn xn) := h.blk.cell 13
  have ch : w.cell? ⟨hb, k, none⟩ = some (.int .i64 h_) := h.hi.cell (by rw [List.getElem?_map, hk]; rfl)
  have hld : ∀ w', Kept S0 w w' → ∀ j, j < f.arr.size → w'.cell? ((⟨b, o + k * 25, none⟩ : Addr).add j) = f.arr[j]? := fun w' hk' j hj => by rw [addr_add]; exact ((hf.kept0 h.kept).kept0 hk') j hj
  have HLD := Lib.hid hld
  have HW := Lib.hid h
  have HX := Lib.hid hx
  have HKH := Lib.hid hk
  have HC := Lib.hid hc
  have HSP := Lib.hid hsp
  have HFL := Lib.hid hfl
  have HM := Lib.hid hm
  clear hrow hf hld h hx hk hc hsp hfl hl hm
  go_enter Tryd.func29, Tryd.ntmps29
  go_wp2_with fail
  refine wp_region_R (fun w' => Kept S0 w w' ∧ w'.cell? ⟨W, 11, none⟩ = some (.slice (some ⟨b, o, none⟩) xn xc) ∧ w'.cell? ⟨W, 13, none⟩ = some (.slice (some ⟨hb, 0, none⟩) xn xn) ∧ w'.cell? ⟨hb, k, none⟩ = some (.int .i64 h_)) [] (by kernel_rfl) ?_
  have hS : Kept S0 w w.drew ∧ w.drew.cell? ⟨W, 11, none⟩ = some (.slice (some ⟨b, o, none⟩) xn xc) ∧ w.drew.cell? ⟨W, 13, none⟩ = some (.slice (some ⟨hb, 0, none⟩) xn xn) ∧ w.drew.cell? ⟨hb, k, none⟩ = some (.int .i64 h_) := ⟨(Kept.refl S0 w).drew, c11, c13, ch⟩
  generalize w.drew = w1 at *
  refine wpAnyR_take 0 (v := ?_) rfl (by kernel_rfl) (by kernel_rfl) (by kernel_rfl) (by kernel_rfl) (fun _ _ _ h => h) hS ⟨by rfl, ?_⟩ ?_
  rotate_left; (intro w hSw; (try dsimp only at hSw); first | (go_simp; done) | (go_simp; with_reducible rfl))
  simp only [List.getElem_toArray, List.getElem_cons_zero, Act.put, List.setIfInBounds_toArray, List.set_cons_zero, List.set_cons_succ]
  refine wpAnyR_take 1 (v := ?_) rfl (by kernel_rfl) (by kernel_rfl) (by kernel_rfl) (by kernel_rfl) (fun _ _ _ h => h) hS ⟨by rfl, ?_⟩ ?_
  rotate_left; (intro w hSw; (try dsimp only at hSw); first | (go_simp; done) | (go_simp; with_reducible rfl))
  simp only [List.getElem_toArray, List.getElem_cons_zero, List.getElem_cons_succ, Act.put, List.setIfInBounds_toArray, List.set_cons_zero, List.set_cons_succ]
  refine wpAnyR_take 2 (v := ?_) rfl (by kernel_rfl) (by kernel_rfl) (by kernel_rfl) (by kernel_rfl) (fun _ _ _ h => h) hS ⟨by rfl, ?_⟩ ?_
  rotate_left; (intro w hSw; (try dsimp only at hSw); first | (go_simp; done) | (go_simp; with_reducible rfl))
  simp only [List.getElem_toArray, List.getElem_cons_zero, List.getElem_cons_succ, Act.put, List.setIfInBounds_toArray, List.set_cons_zero, List.set_cons_succ]
  refine wpAnyR_take 3 (v := ?_) rfl (by kernel_rfl) (by kernel_rfl) (by kernel_rfl) (by kernel_rfl) (fun _ _ _ h => h) hS ⟨by rfl, ?_⟩ ?_
  rotate_left; (intro w hSw; (try dsimp only at hSw); first | (go_simp; done) | (go_simp; with_reducible rfl))
  simp only [List.getElem_toArray, List.getElem_cons_zero, List.getElem_cons_succ, Act.put, List.setIfInBounds_toArray, List.set_cons_zero, List.set_cons_succ]
  refine wpAnyR_take 4 (v := ?_) rfl (by kernel_rfl) (by kernel_rfl) (by kernel_rfl) (by kernel_rfl) (fun _ _ _ h => h) hS ⟨by rfl, ?_⟩ ?_
  rotate_left; (intro w hSw; (try dsimp only at hSw); first | (go_simp; done) | (go_simp; with_reducible rfl))
  simp only [List.getElem_toArray, List.getElem_cons_zero, List.getElem_cons_succ, Act.put, List.setIfInBounds_toArray, List.set_cons_zero, List.set_cons_succ]
  refine wpAnyR_take 5 (v := ?_) rfl (by kernel_rfl) (by kernel_rfl) (by kernel_rfl) (by kernel_rfl) (fun _ _ _ h => h) hS ⟨by rfl, ?_⟩ ?_
  rotate_left; (intro w hSw; (try dsimp only at hSw); first | (go_simp; done) | (go_simp; with_reducible rfl))
  simp only [List.getElem_toArray, List.getElem_cons_zero, List.getElem_cons_succ, Act.put, List.setIfInBounds_toArray, List.set_cons_zero, List.set_cons_succ]
  refine wpAnyR_take 6 (v := ?_) rfl (by kernel_rfl) (by kernel_rfl) (by kernel_rfl) (by kernel_rfl) (fun _ _ _ h => h) hS ⟨by rfl, ?_⟩ ?_
  rotate_left; (intro w hSw; (try dsimp only at hSw); first | (go_simp; done) | (go_simp; with_reducible rfl))
  simp only [List.getElem_toArray, List.getElem_cons_zero, List.getElem_cons_succ, Act.put, List.setIfInBounds_toArray, List.set_cons_zero, List.set_cons_succ]
  refine wpAnyR_take 7 (v := .agg f.arr) rfl (by kernel_rfl) (by kernel_rfl) (by kernel_rfl) (by kernel_rfl) (fun _ _ _ h => h) hS ⟨by rfl, fun w hSw => exec_load_cells 46 _ rfl w ⟨b, o + k * 25, none⟩ rfl f.arr _ (HLD.out w hSw.1) Tryd.underlying46 rfl (by kernel_rfl)⟩ ?_
  simp only [List.getElem_toArray, List.getElem_cons_zero, List.getElem_cons_succ, Act.put, List.setIfInBounds_toArray, List.set_cons_zero, List.set_cons_succ]
  refine wpAnyR_take 8 (v := ?_) rfl (by kernel_rfl) (by kernel_rfl) (by kernel_rfl) (by kernel_rfl) (fun _ _ _ h => h) hS ⟨by rfl, ?_⟩ ?_
  rotate_left; (intro w hSw; (try dsimp only at hSw); first | (go_simp; done) | (go_simp; with_reducible rfl))
  simp only [List.getElem_toArray, List.getElem_cons_zero, List.getElem_cons_succ, Act.put, List.setIfInBounds_toArray, List.set_cons_zero, List.set_cons_succ]
  refine wpAnyR_take 9 (v := ?_) rfl (by kernel_rfl) (by kernel_rfl) (by kernel_rfl) (by kernel_rfl) (fun _ _ _ h => h) hS ⟨by rfl, ?_⟩ ?_
  rotate_left; (intro w hSw; (try dsimp only at hSw); first | (go_simp; done) | (go_simp; with_reducible rfl))
  simp only [List.getElem_toArray, List.getElem_cons_zero, List.getElem_cons_succ, Act.put, List.setIfInBounds_toArray, List.set_cons_zero, List.set_cons_succ]
  refine wpAnyR_take 10 (v := ?_) rfl (by kernel_rfl) (by kernel_rfl) (by kernel_rfl) (by kernel_rfl) (fun _ _ _ h => h) hS ⟨by rfl, ?_⟩ ?_
  rotate_left; (intro w hSw; (try dsimp only at hSw); first | (go_simp; done) | (go_simp; with_reducible rfl))
  simp only [List.getElem_toArray, List.getElem_cons_zero, List.getElem_cons_succ, Act.put, List.setIfInBounds_toArray, List.set_cons_zero, List.set_cons_succ]
  refine wpAnyR_take 11 (v := ?_) rfl (by kernel_rfl) (by kernel_rfl) (by kernel_rfl) (by kernel_rfl) (fun _ _ _ h => h) hS ⟨by rfl, ?_⟩ ?_
  rotate_left; (intro w hSw; (try dsimp only at hSw); first | (go_simp; done) | (go_simp; with_reducible rfl))
  simp only [List.getElem_toArray, List.getElem_cons_zero, List.getElem_cons_succ, Act.put, List.setIfInBounds_toArray, List.set_cons_zero, List.set_cons_succ]
  refine wpAnyR_take 12 (v := ?_) rfl (by kernel_rfl) (by kernel_rfl) (by kernel_rfl) (by kernel_rfl) (fun _ _ _ h => h) hS ⟨by rfl, ?_⟩ ?_
  rotate_left; (intro w hSw; (try dsimp only at hSw); first | (go_simp; done) | (go_simp; with_reducible rfl))
  simp only [List.getElem_toArray, List.getElem_cons_zero, List.getElem_cons_succ, Act.put, List.setIfInBounds_toArray, List.set_cons_zero, List.set_cons_succ]
  refine wpAnyR_take 13 (v := ?_) rfl (by kernel_rfl) (by kernel_rfl) (by kernel_rfl) (by kernel_rfl) (fun _ _ _ h => h) hS ⟨by rfl, ?_⟩ ?_
  rotate_left; (intro w hSw; (try dsimp only at hSw); first | (go_simp; done) | (go_simp; with_reducible rfl))
  simp only [List.getElem_toArray, List.getElem_cons_zero, List.getElem_cons_succ, Act.put, List.setIfInBounds_toArray, List.set_cons_zero, List.set_cons_succ]
  refine wpAnyR_take 14 (v := ?_) rfl (by kernel_rfl) (by kernel_rfl) (by kernel_rfl) (by kernel_rfl) (fun _ _ _ h => h) hS ⟨by rfl, ?_⟩ ?_
  rotate_left; (intro w hSw; (try dsimp only at hSw); first | (go_simp; done) | (go_simp; with_reducible rfl))
  simp only [List.getElem_toArray, List.getElem_cons_zero, List.getElem_cons_succ, Act.put, List.setIfInBounds_toArray, List.set_cons_zero, List.set_cons_succ]
  refine wpAnyR_one 15 rfl (by kernel_rfl) (fun K hK => ?_)
  go_simp
  change K _ (w1.alloc (.cells flatZ 46))
  have hS2 : Kept S0 w (w1.alloc (.cells flatZ 46)) ∧ (w1.alloc (.cells flatZ 46)).cell? ⟨W, 11, none⟩ = some (.slice (some ⟨b, o, none⟩) xn xc) ∧ (w1.alloc (.cells flatZ 46)).cell? ⟨W, 13, none⟩ = some (.slice (some ⟨hb, 0, none⟩) xn xn) ∧ (w1.alloc (.cells flatZ 46)).cell? ⟨hb, k, none⟩ = some (.int .i64 h_) :=
    have hk := (Kept.refl S0 w1).alloc (.cells flatZ 46)
    ⟨hS.1.then0 hk, kp0 hk hS.2.1, kp0 hk hS.2.2.1, kp0 hk hS.2.2.2⟩
  have HB2 := Lib.hid (Blk.new w1 46 flatZ)
  have HGW := Lib.hid hS.1.size
  refine hK.out _ _ (fun _ => hS2) ?_
  clear hK K hS
  generalize (w1.alloc (.cells flatZ 46)) = w2 at *
  generalize hg : w1.heap.size = g at *
  refine wpAnyR_one 16 rfl (by kernel_rfl) (fun K hK => ?_)
  rw [if_pos (by rfl)]
  refine wp_store_row 46 _ _ rfl g f.arr rfl rfl 46 flatZ HB2.out (by kernel_rfl) rfl (by unfold FC.arr; simp [Value.oneCell']) ?_
  have hk3 : Kept S0 w (w2.setRow g f.arr) := hS2.1.setRow (.inr HGW.out) _
  have hS3 : Kept S0 w (w2.setRow g f.arr) ∧ (w2.setRow g f.arr).cell? ⟨W, 11, none⟩ = some (.slice (some ⟨b, o, none⟩) xn xc) ∧ (w2.setRow g f.arr).cell? ⟨W, 13, none⟩ = some (.slice (some ⟨hb, 0, none⟩) xn xn) ∧ (w2.setRow g f.arr).cell? ⟨hb, k, none⟩ = some (.int .i64 h_) := ⟨hk3, kp0 hk3 c11, kp0 hk3 c13, kp0 hk3 ch⟩
  have HB3 := Lib.hid (HB2.out.setRow f.arr)
  have HW3 := Lib.hid (HW.out.kept0 hk3)
  have HK3 := Lib.hid hk3
  clear hk3
  refine hK.out _ _ (fun _ => hS3) ?_
  clear hK K
  generalize (w2.setRow g f.arr) = w3 at *
  refine wpAnyR_take 17 (v := ?_) rfl (by kernel_rfl) (by kernel_rfl) (by kernel_rfl) (by kernel_rfl) (fun _ _ _ h => h) hS3 ⟨by rfl, ?_⟩ ?_
  rotate_left; (intro w hSw; (try dsimp only at hSw); first | (go_simp; done) | (go_simp; with_reducible rfl))
  simp only [List.getElem_toArray, List.getElem_cons_zero, List.getElem_cons_succ, Act.put, List.setIfInBounds_toArray, List.set_cons_zero, List.set_cons_succ]
  refine wpAnyR_done (by kernel_rfl) ?_ _
  clear hS3 hS2 HB2 hg c11 c13 ch
  have HNE := Lib.hid (show g ≠ W from fun e => by have h1 := HGW.out; have h2 := HW.out.blk.lt; omega)
  have HXE := Lib.hid (And.intro HFL.out.op.symm (And.intro HFL.out.dst.symm (And.intro HFL.out.keep.symm HFL.out.height.symm)))
  have e0 : w3.cell? ⟨g, 0, none⟩ = some (.int .u16 (f.op : Int)) := HB3.out.cell 0
  have c15 : w3.cell? ⟨W, 15, none⟩ = some (.bool s.no) := HW3.out.blk.cell 15
  have f15 := HW3.out.blk.frozen 15
  have us : IntKind.i64.wrap (h_ - 1) = h_ - 1 := IntWalk.i64_in _ (by omega)
  have hk40 : (k : Int) < 9223372036854775807 := by
    have h1 := HW3.out.hi.len
    have h2 : xn ≤ maxLen := by obtain ⟨A, c, e, h3⟩ := HW3.out.hi.out; cases e; exact Nat.le_trans h3.le h3.cm
    unfold maxLen at h2
    omega
  have ua : IntKind.i64.wrap ((k : Int) + 1) = (k : Int) + 1 := IntWalk.i64_in _ (by omega)
  have HLEN := Lib.hid HW3.out.len
  have HWL := Lib.hid (show s.wait.length ≤ 1000000000000 from Nat.le_trans (Nat.le_add_right _ _) HM.out)
  by_cases h12 : f.op = 12
  · have hxo : x.op = 12 := by rw [HXE.out.1]; exact h12
    rw [h12] at e0
    have hst : stepP xn H p x s (k : Int) h_ = goalP xn H s (f.dst, f.keep, f.height) h_ := by unfold stepP; simp only [hxo, HXE.out.2.1, HXE.out.2.2.1, HXE.out.2.2.2]; first | rfl | (simp; done)
    have HST := Lib.hid hst
    clear hst hxo
    have e21 : w3.cell? ⟨g, 21, none⟩ = some (.int .i64 f.dst) := HB3.out.cell 21
    have e22 : w3.cell? ⟨g, 22, none⟩ = some (.int .i64 f.keep) := HB3.out.cell 22
    have e23 : w3.cell? ⟨g, 23, none⟩ = some (.int .i64 f.height) := HB3.out.cell 23
    have HG := Lib.hid (goal_any w0 W hb c (some ⟨b, o, none⟩) xn xc H wv s (f.dst, f.keep, f.height) h_ w3 HW3.out (by have := HWL.out; omega) (by omega))
    have HT := HST
    clear HST
    go_wp2_with (go_at_call 48; refine HG.out.mono ?_; rintro e w' ⟨rfl, wv', hw'⟩)
    go_end0
    exact ⟨rfl, wv', by rw [HT.out]; exact hw'⟩
  by_cases h13 : f.op = 13
  · have hxo : x.op = 13 := by rw [HXE.out.1]; exact h13
    rw [h13] at e0
    have hst : stepP xn H p x s (k : Int) h_ = walkTo xn H (goalP xn H { s with no := s.no || decide (h_ < 1) } (f.dst, f.keep, f.height) (h_ - 1)) ((k : Int) + 1) (h_ - 1) := by unfold stepP; simp only [hxo, HXE.out.2.1, HXE.out.2.2.1, HXE.out.2.2.2]; first | rfl | (simp; done)
    have HST := Lib.hid hst
    clear hst hxo
    cases hno : s.no with
    | true =>
      rw [hno] at c15
      have hbb : (s.no || decide (h_ < 1)) = true := by rw [hno]; rfl
      have HBB := Lib.hid hbb
      clear hbb
      go_upto_region 9 with fail
      have HW4 := Lib.hid (HW3.out.setNo true)
      have HB4 := Lib.hid (show Blk (w3.setCell ⟨W, 15, none⟩ (.bool true)) g 46 f.arr from HB3.out.far HNE.out _)
      generalize (w3.setCell ⟨W, 15, none⟩ (.bool true)) = w4 at *
      clear c15 f15 e0
      have e21 : w4.cell? ⟨g, 21, none⟩ = some (.int .i64 f.dst) := HB4.out.cell 21
      have e22 : w4.cell? ⟨g, 22, none⟩ = some (.int .i64 f.keep) := HB4.out.cell 22
      have e23 : w4.cell? ⟨g, 23, none⟩ = some (.int .i64 f.height) := HB4.out.cell 23
      have HG := Lib.hid (goal_any w0 W hb c (some ⟨b, o, none⟩) xn xc H wv { s with no := true } (f.dst, f.keep, f.height) (h_ - 1) w4 HW4.out (by have := HWL.out; show s.wait.length ≤ _; omega) (by omega))
      have HT := Lib.hid (HST.out.trans (by rw [HBB.out]))
      have HQ := Lib.hid (show (goalP xn H { s with no := true } (f.dst, f.keep, f.height) (h_ - 1)).wait.length ≤ 1099511627776 from Nat.le_trans goalP_wait (by have := HWL.out; show s.wait.length + 1 ≤ _; omega))
      clear HST HBB
      generalize goalP xn H { s with no := true } (f.dst, f.keep, f.height) (h_ - 1) = s5 at *
      go_upto_region 10 with (go_at_call 48; refine HG.out.mono ?_; rintro e w5 ⟨rfl, wv5, hw5⟩)
      have HC5 := Lib.hid (to_any w0 W hb c (some ⟨b, o, none⟩) xn xc H wv5 s5 ((k : Int) + 1) (h_ - 1) w5 hw5 HQ.out)
      clear hw5
      go_wp2_with (go_at_call 28; refine HC5.out.mono ?_; rintro e w' ⟨rfl, wv', hw'⟩)
      go_end0
      exact ⟨rfl, wv', by rw [HT.out]; exact hw'⟩
    | false =>
      rw [hno] at c15
      by_cases h1 : h_ < 1
      · have H1 := Lib.hid h1
        have hbb : (s.no || decide (h_ < 1)) = true := by rw [hno, decide_eq_true H1.out]; rfl
        have HBB := Lib.hid hbb
        clear hbb
        go_upto_region 9 with fail
        have HW4 := Lib.hid (HW3.out.setNo true)
        have HB4 := Lib.hid (show Blk (w3.setCell ⟨W, 15, none⟩ (.bool true)) g 46 f.arr from HB3.out.far HNE.out _)
        generalize (w3.setCell ⟨W, 15, none⟩ (.bool true)) = w4 at *
        clear c15 f15 e0
        have e21 : w4.cell? ⟨g, 21, none⟩ = some (.int .i64 f.dst) := HB4.out.cell 21
        have e22 : w4.cell? ⟨g, 22, none⟩ = some (.int .i64 f.keep) := HB4.out.cell 22
        have e23 : w4.cell? ⟨g, 23, none⟩ = some (.int .i64 f.height) := HB4.out.cell 23
        have HG := Lib.hid (goal_any w0 W hb c (some ⟨b, o, none⟩) xn xc H wv { s with no := true } (f.dst, f.keep, f.height) (h_ - 1) w4 HW4.out (by have := HWL.out; show s.wait.length ≤ _; omega) (by omega))
        have HT := Lib.hid (HST.out.trans (by rw [HBB.out]))
        have HQ := Lib.hid (show (goalP xn H { s with no := true } (f.dst, f.keep, f.height) (h_ - 1)).wait.length ≤ 1099511627776 from Nat.le_trans goalP_wait (by have := HWL.out; show s.wait.length + 1 ≤ _; omega))
        clear HST HBB
        generalize goalP xn H { s with no := true } (f.dst, f.keep, f.height) (h_ - 1) = s5 at *
        go_upto_region 10 with (go_at_call 48; refine HG.out.mono ?_; rintro e w5 ⟨rfl, wv5, hw5⟩)
        have HC5 := Lib.hid (to_any w0 W hb c (some ⟨b, o, none⟩) xn xc H wv5 s5 ((k : Int) + 1) (h_ - 1) w5 hw5 HQ.out)
        clear hw5
        go_wp2_with (go_at_call 28; refine HC5.out.mono ?_; rintro e w' ⟨rfl, wv', hw'⟩)
        go_end0
        exact ⟨rfl, wv', by rw [HT.out]; exact hw'⟩
      · have H1 := Lib.hid h1
        have hbb : (s.no || decide (h_ < 1)) = false := by rw [hno, decide_eq_false H1.out]; rfl
        have HBB := Lib.hid hbb
        clear hbb
        go_upto_region 9 with fail
        have HW4 := Lib.hid (HW3.out.setNo false)
        have HB4 := Lib.hid (show Blk (w3.setCell ⟨W, 15, none⟩ (.bool false)) g 46 f.arr from HB3.out.far HNE.out _)
        generalize (w3.setCell ⟨W, 15, none⟩ (.bool false)) = w4 at *
        clear c15 f15 e0
        have e21 : w4.cell? ⟨g, 21, none⟩ = some (.int .i64 f.dst) := HB4.out.cell 21
        have e22 : w4.cell? ⟨g, 22, none⟩ = some (.int .i64 f.keep) := HB4.out.cell 22
        have e23 : w4.cell? ⟨g, 23, none⟩ = some (.int .i64 f.height) := HB4.out.cell 23
        have HG := Lib.hid (goal_any w0 W hb c (some ⟨b, o, none⟩) xn xc H wv { s with no := false } (f.dst, f.keep, f.height) (h_ - 1) w4 HW4.out (by have := HWL.out; show s.wait.length ≤ _; omega) (by omega))
        have HT := Lib.hid (HST.out.trans (by rw [HBB.out]))
        have HQ := Lib.hid (show (goalP xn H { s with no := false } (f.dst, f.keep, f.height) (h_ - 1)).wait.length ≤ 1099511627776 from Nat.le_trans goalP_wait (by have := HWL.out; show s.wait.length + 1 ≤ _; omega))
        clear HST HBB
        generalize goalP xn H { s with no := false } (f.dst, f.keep, f.height) (h_ - 1) = s5 at *
        go_upto_region 10 with (go_at_call 48; refine HG.out.mono ?_; rintro e w5 ⟨rfl, wv5, hw5⟩)
        have HC5 := Lib.hid (to_any w0 W hb c (some ⟨b, o, none⟩) xn xc H wv5 s5 ((k : Int) + 1) (h_ - 1) w5 hw5 HQ.out)
        clear hw5
        go_wp2_with (go_at_call 28; refine HC5.out.mono ?_; rintro e w' ⟨rfl, wv', hw'⟩)
        go_end0
        exact ⟨rfl, wv', by rw [HT.out]; exact hw'⟩
  by_cases h14 : f.op = 14
  · have hxo : x.op = 14 := by rw [HXE.out.1]; exact h14
    rw [h14] at e0
    have hst : stepP xn H p x s (k : Int) h_ = x.L.foldl (fun s g => goalP xn H s g (h_ - 1)) { s with no := s.no || decide (h_ < 1) } := by unfold stepP; simp only [hxo, HXE.out.2.1, HXE.out.2.2.1, HXE.out.2.2.2]; first | rfl | (simp; done)
    have HST := Lib.hid hst
    clear hst hxo
    cases hno : s.no with
    | true =>
      rw [hno] at c15
      have hbb : (s.no || decide (h_ < 1)) = true := by rw [hno]; rfl
      have HBB := Lib.hid hbb
      clear hbb
      go_upto_region 13 with fail
      have HW4 := Lib.hid (HW3.out.setNo true)
      have HB4 := Lib.hid (show Blk (w3.setCell ⟨W, 15, none⟩ (.bool true)) g 46 f.arr from HB3.out.far HNE.out _)
      generalize (w3.setCell ⟨W, 15, none⟩ (.bool true)) = w4 at *
      clear c15 f15 e0
      have e24 : w4.cell? ⟨g, 24, none⟩ = some (.slice f.lA f.ln f.lc) := HB4.out.cell 24
      have HT := Lib.hid (HST.out.trans (by rw [HBB.out]))
      clear HST HBB
      obtain ⟨s5, hs5⟩ : ∃ s5, s5 = ({ s with no := true } : WP) := ⟨_, rfl⟩
      have HPH := Lib.hid (show phi s5 ≤ 1000000000000 from by rw [hs5]; exact HM.out)
      have HL5 := Lib.hid (show s5.high.length = xn from by rw [hs5]; exact HLEN.out)
      rw [← hs5] at HT HW4
      clear hs5
      have HLL := Lib.hid HFL.out.l
      have HLN := Lib.hid (show x.L.length = f.ln by have h9 := HFL.out.l.len; rw [flat_len goalC 3 (fun _ => rfl)] at h9; omega)
      have HLE := Lib.hid HFL.out.ll
      have hlni : (f.ln : Int) ≤ 1000000000000000 := by have := HLE.out; omega
      generalize f.lA = lA at *
      generalize f.ln = ln at *
      generalize f.lc = lc at *
      go_wp2_with fail
      go_loopw [118] (fun i wr => ∃ (j : Nat) (wv5 : Value) (s6 : WP), j ≤ ln ∧ i = .int .i64 (j : Int) ∧ WAt w0 wr W hb c (some ⟨b, o, none⟩) xn xc H wv5 s6 ∧ phi s6 ≤ 1000000000000 ∧ s6.high.length = xn ∧ (x.L.drop j).foldl (fun s g => goalP xn H s g (h_ - 1)) s6 = x.L.foldl (fun s g => goalP xn H s g (h_ - 1)) s5) (fun i _ => ln + 1 - (intOf i).toNat)
      case atStart => exact ⟨0, wv, s5, Nat.zero_le _, rfl, HW4.out, HPH.out, HL5.out, rfl⟩
      case round =>
        obtain ⟨j, wv5, s6, hj, rfl, hw6, hp6, hl6, hf6⟩ := hrel
        have HW6 := Lib.hid hw6
        have HP6 := Lib.hid hp6
        have HL6 := Lib.hid hl6
        have HF6 := Lib.hid hf6
        clear hw6 hp6 hl6 hf6
        by_cases hlt : j < ln
        · obtain ⟨gg, hgg⟩ : ∃ gg, x.L[j]? = some gg := ⟨_, List.getElem?_eq_getElem (by have := HLN.out; omega)⟩
          obtain ⟨lb, lo, rfl, hcs⟩ := (HLL.out.kept0 HW6.out.kept).at (by omega)
          obtain ⟨g1, g2, g3⟩ := gg
          have d0 : wr.cell? ⟨lb, lo + j * 3, none⟩ = some (.int .i64 g1) := hcs (j * 3) _ (by have h := flat_get goalC 3 (fun _ => rfl) x.L j _ hgg 0 (by omega); rw [Nat.add_zero] at h; rw [h]; rfl)
          have d1 : wr.cell? ⟨lb, lo + j * 3 + 1, none⟩ = some (.int .i64 g2) := by
            have h9 := hcs (j * 3 + 1) _ (by have h := flat_get goalC 3 (fun _ => rfl) x.L j _ hgg 1 (by omega); rw [h]; rfl)
            rw [← Nat.add_assoc] at h9
            exact h9
          have d2 : wr.cell? ⟨lb, lo + j * 3 + 2, none⟩ = some (.int .i64 g3) := by
            have h9 := hcs (j * 3 + 2) _ (by have h := flat_get goalC 3 (fun _ => rfl) x.L j _ hgg 2 (by omega); rw [h]; rfl)
            rw [← Nat.add_assoc] at h9
            exact h9
          have hdr : x.L.drop j = (g1, g2, g3) :: x.L.drop (j + 1) := by
            rw [List.drop_eq_getElem_cons (List.getElem?_eq_some_iff.1 hgg).1, (List.getElem?_eq_some_iff.1 hgg).2]
          have HF7 := Lib.hid (show (x.L.drop (j + 1)).foldl (fun s g => goalP xn H s g (h_ - 1)) (goalP xn H s6 (g1, g2, g3) (h_ - 1)) = x.L.foldl (fun s g => goalP xn H s g (h_ - 1)) s5 from by rw [← HF6.out, hdr]; rfl)
          clear hcs hgg hdr HF6
          have hlti : (j : Int) < (ln : Int) := by omega
          have HKA := Lib.hid ((Kept.refl S0 wr).alloc (.cells #[.int .i64 g1, .int .i64 g2, .int .i64 g3] 113))
          have HG := Lib.hid (goal_any w0 W hb c (some ⟨b, o, none⟩) xn xc H wv5 s6 (g1, g2, g3) (h_ - 1) _ (HW6.out.kept0 HKA.out) (by have h1 := HP6.out; unfold phi at h1; omega) (by omega))
          have HP7 := Lib.hid (show phi (goalP xn H s6 (g1, g2, g3) (h_ - 1)) ≤ 1000000000000 from Nat.le_trans (goalP_phi HL6.out) HP6.out)
          have HL7 := Lib.hid (show (goalP xn H s6 (g1, g2, g3) (h_ - 1)).high.length = xn from goalP_len HL6.out)
          generalize goalP xn H s6 (g1, g2, g3) (h_ - 1) = s7 at *
          go_wp2_with (go_at_call 48; refine HG.out.mono ?_; rintro e w' ⟨rfl, wv', hw'⟩)
          go_roundw
          case rel => exact ⟨j + 1, wv', s7, by omega, by go_num, hw', HP7.out, HL7.out, HF7.out⟩
          case measure => simp [intOf]; omega
        · have HF8 := Lib.hid (show s6 = x.L.foldl (fun s g => goalP xn H s g (h_ - 1)) s5 from by
            have h := HF6.out
            rw [List.drop_eq_nil_of_le (by have := HLN.out; omega)] at h
            exact h)
          go_wp2_with fail
          go_end0
          exact ⟨rfl, wv5, by rw [HT.out, ← HF8.out]; exact HW6.out⟩
    | false =>
      rw [hno] at c15
      by_cases h1 : h_ < 1
      · have H1 := Lib.hid h1
        have hbb : (s.no || decide (h_ < 1)) = true := by rw [hno, decide_eq_true H1.out]; rfl
        have HBB := Lib.hid hbb
        clear hbb
        go_upto_region 13 with fail
        have HW4 := Lib.hid (HW3.out.setNo true)
        have HB4 := Lib.hid (show Blk (w3.setCell ⟨W, 15, none⟩ (.bool true)) g 46 f.arr from HB3.out.far HNE.out _)
        generalize (w3.setCell ⟨W, 15, none⟩ (.bool true)) = w4 at *
        clear c15 f15 e0
        have e24 : w4.cell? ⟨g, 24, none⟩ = some (.slice f.lA f.ln f.lc) := HB4.out.cell 24
        have HT := Lib.hid (HST.out.trans (by rw [HBB.out]))
        clear HST HBB
        obtain ⟨s5, hs5⟩ : ∃ s5, s5 = ({ s with no := true } : WP) := ⟨_, rfl⟩
        have HPH := Lib.hid (show phi s5 ≤ 1000000000000 from by rw [hs5]; exact HM.out)
        have HL5 := Lib.hid (show s5.high.length = xn from by rw [hs5]; exact HLEN.out)
        rw [← hs5] at HT HW4
        clear hs5
        have HLL := Lib.hid HFL.out.l
        have HLN := Lib.hid (show x.L.length = f.ln by have h9 := HFL.out.l.len; rw [flat_len goalC 3 (fun _ => rfl)] at h9; omega)
        have HLE := Lib.hid HFL.out.ll
        have hlni : (f.ln : Int) ≤ 1000000000000000 := by have := HLE.out; omega
        generalize f.lA = lA at *
        generalize f.ln = ln at *
        generalize f.lc = lc at *
        go_wp2_with fail
        go_loopw [118] (fun i wr => ∃ (j : Nat) (wv5 : Value) (s6 : WP), j ≤ ln ∧ i = .int .i64 (j : Int) ∧ WAt w0 wr W hb c (some ⟨b, o, none⟩) xn xc H wv5 s6 ∧ phi s6 ≤ 1000000000000 ∧ s6.high.length = xn ∧ (x.L.drop j).foldl (fun s g => goalP xn H s g (h_ - 1)) s6 = x.L.foldl (fun s g => goalP xn H s g (h_ - 1)) s5) (fun i _ => ln + 1 - (intOf i).toNat)
        case atStart => exact ⟨0, wv, s5, Nat.zero_le _, rfl, HW4.out, HPH.out, HL5.out, rfl⟩
        case round =>
          obtain ⟨j, wv5, s6, hj, rfl, hw6, hp6, hl6, hf6⟩ := hrel
          have HW6 := Lib.hid hw6
          have HP6 := Lib.hid hp6
          have HL6 := Lib.hid hl6
          have HF6 := Lib.hid hf6
          clear hw6 hp6 hl6 hf6
          by_cases hlt : j < ln
          · obtain ⟨gg, hgg⟩ : ∃ gg, x.L[j]? = some gg := ⟨_, List.getElem?_eq_getElem (by have := HLN.out; omega)⟩
            obtain ⟨lb, lo, rfl, hcs⟩ := (HLL.out.kept0 HW6.out.kept).at (by omega)
            obtain ⟨g1, g2, g3⟩ := gg
            have d0 : wr.cell? ⟨lb, lo + j * 3, none⟩ = some (.int .i64 g1) := hcs (j * 3) _ (by have h := flat_get goalC 3 (fun _ => rfl) x.L j _ hgg 0 (by omega); rw [Nat.add_zero] at h; rw [h]; rfl)
            have d1 : wr.cell? ⟨lb, lo + j * 3 + 1, none⟩ = some (.int .i64 g2) := by
              have h9 := hcs (j * 3 + 1) _ (by have h := flat_get goalC 3 (fun _ => rfl) x.L j _ hgg 1 (by omega); rw [h]; rfl)
              rw [← Nat.add_assoc] at h9
              exact h9
            have d2 : wr.cell? ⟨lb, lo + j * 3 + 2, none⟩ = some (.int .i64 g3) := by
              have h9 := hcs (j * 3 + 2) _ (by have h := flat_get goalC 3 (fun _ => rfl) x.L j _ hgg 2 (by omega); rw [h]; rfl)
              rw [← Nat.add_assoc] at h9
              exact h9
            have hdr : x.L.drop j = (g1, g2, g3) :: x.L.drop (j + 1) := by
              rw [List.drop_eq_getElem_cons (List.getElem?_eq_some_iff.1 hgg).1, (List.getElem?_eq_some_iff.1 hgg).2]
            have HF7 := Lib.hid (show (x.L.drop (j + 1)).foldl (fun s g => goalP xn H s g (h_ - 1)) (goalP xn H s6 (g1, g2, g3) (h_ - 1)) = x.L.foldl (fun s g => goalP xn H s g (h_ - 1)) s5 from by rw [← HF6.out, hdr]; rfl)
            clear hcs hgg hdr HF6
            have hlti : (j : Int) < (ln : Int) := by omega
            have HKA := Lib.hid ((Kept.refl S0 wr).alloc (.cells #[.int .i64 g1, .int .i64 g2, .int .i64 g3] 113))
            have HG := Lib.hid (goal_any w0 W hb c (some ⟨b, o, none⟩) xn xc H wv5 s6 (g1, g2, g3) (h_ - 1) _ (HW6.out.kept0 HKA.out) (by have h1 := HP6.out; unfold phi at h1; omega) (by omega))
            have HP7 := Lib.hid (show phi (goalP xn H s6 (g1, g2, g3) (h_ - 1)) ≤ 1000000000000 from Nat.le_trans (goalP_phi HL6.out) HP6.out)
            have HL7 := Lib.hid (show (goalP xn H s6 (g1, g2, g3) (h_ - 1)).high.length = xn from goalP_len HL6.out)
            generalize goalP xn H s6 (g1, g2, g3) (h_ - 1) = s7 at *
            go_wp2_with (go_at_call 48; refine HG.out.mono ?_; rintro e w' ⟨rfl, wv', hw'⟩)
            go_roundw
            case rel => exact ⟨j + 1, wv', s7, by omega, by go_num, hw', HP7.out, HL7.out, HF7.out⟩
            case measure => simp [intOf]; omega
          · have HF8 := Lib.hid (show s6 = x.L.foldl (fun s g => goalP xn H s g (h_ - 1)) s5 from by
              have h := HF6.out
              rw [List.drop_eq_nil_of_le (by have := HLN.out; omega)] at h
              exact h)
            go_wp2_with fail
            go_end0
            exact ⟨rfl, wv5, by rw [HT.out, ← HF8.out]; exact HW6.out⟩
      · have H1 := Lib.hid h1
        have hbb : (s.no || decide (h_ < 1)) = false := by rw [hno, decide_eq_false H1.out]; rfl
        have HBB := Lib.hid hbb
        clear hbb
        go_upto_region 13 with fail
        have HW4 := Lib.hid (HW3.out.setNo false)
        have HB4 := Lib.hid (show Blk (w3.setCell ⟨W, 15, none⟩ (.bool false)) g 46 f.arr from HB3.out.far HNE.out _)
        generalize (w3.setCell ⟨W, 15, none⟩ (.bool false)) = w4 at *
        clear c15 f15 e0
        have e24 : w4.cell? ⟨g, 24, none⟩ = some (.slice f.lA f.ln f.lc) := HB4.out.cell 24
        have HT := Lib.hid (HST.out.trans (by rw [HBB.out]))
        clear HST HBB
        obtain ⟨s5, hs5⟩ : ∃ s5, s5 = ({ s with no := false } : WP) := ⟨_, rfl⟩
        have HPH := Lib.hid (show phi s5 ≤ 1000000000000 from by rw [hs5]; exact HM.out)
        have HL5 := Lib.hid (show s5.high.length = xn from by rw [hs5]; exact HLEN.out)
        rw [← hs5] at HT HW4
        clear hs5
        have HLL := Lib.hid HFL.out.l
        have HLN := Lib.hid (show x.L.length = f.ln by have h9 := HFL.out.l.len; rw [flat_len goalC 3 (fun _ => rfl)] at h9; omega)
        have HLE := Lib.hid HFL.out.ll
        have hlni : (f.ln : Int) ≤ 1000000000000000 := by have := HLE.out; omega
        generalize f.lA = lA at *
        generalize f.ln = ln at *
        generalize f.lc = lc at *
        go_wp2_with fail
        go_loopw [118] (fun i wr => ∃ (j : Nat) (wv5 : Value) (s6 : WP), j ≤ ln ∧ i = .int .i64 (j : Int) ∧ WAt w0 wr W hb c (some ⟨b, o, none⟩) xn xc H wv5 s6 ∧ phi s6 ≤ 1000000000000 ∧ s6.high.length = xn ∧ (x.L.drop j).foldl (fun s g => goalP xn H s g (h_ - 1)) s6 = x.L.foldl (fun s g => goalP xn H s g (h_ - 1)) s5) (fun i _ => ln + 1 - (intOf i).toNat)
        case atStart => exact ⟨0, wv, s5, Nat.zero_le _, rfl, HW4.out, HPH.out, HL5.out, rfl⟩
        case round =>
          obtain ⟨j, wv5, s6, hj, rfl, hw6, hp6, hl6, hf6⟩ := hrel
          have HW6 := Lib.hid hw6
          have HP6 := Lib.hid hp6
          have HL6 := Lib.hid hl6
          have HF6 := Lib.hid hf6
          clear hw6 hp6 hl6 hf6
          by_cases hlt : j < ln
          · obtain ⟨gg, hgg⟩ : ∃ gg, x.L[j]? = some gg := ⟨_, List.getElem?_eq_getElem (by have := HLN.out; omega)⟩
            obtain ⟨lb, lo, rfl, hcs⟩ := (HLL.out.kept0 HW6.out.kept).at (by omega)
            obtain ⟨g1, g2, g3⟩ := gg
            have d0 : wr.cell? ⟨lb, lo + j * 3, none⟩ = some (.int .i64 g1) := hcs (j * 3) _ (by have h := flat_get goalC 3 (fun _ => rfl) x.L j _ hgg 0 (by omega); rw [Nat.add_zero] at h; rw [h]; rfl)
            have d1 : wr.cell? ⟨lb, lo + j * 3 + 1, none⟩ = some (.int .i64 g2) := by
              have h9 := hcs (j * 3 + 1) _ (by have h := flat_get goalC 3 (fun _ => rfl) x.L j _ hgg 1 (by omega); rw [h]; rfl)
              rw [← Nat.add_assoc] at h9
              exact h9
            have d2 : wr.cell? ⟨lb, lo + j * 3 + 2, none⟩ = some (.int .i64 g3) := by
              have h9 := hcs (j * 3 + 2) _ (by have h := flat_get goalC 3 (fun _ => rfl) x.L j _ hgg 2 (by omega); rw [h]; rfl)
              rw [← Nat.add_assoc] at h9
              exact h9
            have hdr : x.L.drop j = (g1, g2, g3) :: x.L.drop (j + 1) := by
              rw [List.drop_eq_getElem_cons (List.getElem?_eq_some_iff.1 hgg).1, (List.getElem?_eq_some_iff.1 hgg).2]
            have HF7 := Lib.hid (show (x.L.drop (j + 1)).foldl (fun s g => goalP xn H s g (h_ - 1)) (goalP xn H s6 (g1, g2, g3) (h_ - 1)) = x.L.foldl (fun s g => goalP xn H s g (h_ - 1)) s5 from by rw [← HF6.out, hdr]; rfl)
            clear hcs hgg hdr HF6
            have hlti : (j : Int) < (ln : Int) := by omega
            have HKA := Lib.hid ((Kept.refl S0 wr).alloc (.cells #[.int .i64 g1, .int .i64 g2, .int .i64 g3] 113))
            have HG := Lib.hid (goal_any w0 W hb c (some ⟨b, o, none⟩) xn xc H wv5 s6 (g1, g2, g3) (h_ - 1) _ (HW6.out.kept0 HKA.out) (by have h1 := HP6.out; unfold phi at h1; omega) (by omega))
            have HP7 := Lib.hid (show phi (goalP xn H s6 (g1, g2, g3) (h_ - 1)) ≤ 1000000000000 from Nat.le_trans (goalP_phi HL6.out) HP6.out)
            have HL7 := Lib.hid (show (goalP xn H s6 (g1, g2, g3) (h_ - 1)).high.length = xn from goalP_len HL6.out)
            generalize goalP xn H s6 (g1, g2, g3) (h_ - 1) = s7 at *
            go_wp2_with (go_at_call 48; refine HG.out.mono ?_; rintro e w' ⟨rfl, wv', hw'⟩)
            go_roundw
            case rel => exact ⟨j + 1, wv', s7, by omega, by go_num, hw', HP7.out, HL7.out, HF7.out⟩
            case measure => simp [intOf]; omega
          · have HF8 := Lib.hid (show s6 = x.L.foldl (fun s g => goalP xn H s g (h_ - 1)) s5 from by
              have h := HF6.out
              rw [List.drop_eq_nil_of_le (by have := HLN.out; omega)] at h
              exact h)
            go_wp2_with fail
            go_end0
            exact ⟨rfl, wv5, by rw [HT.out, ← HF8.out]; exact HW6.out⟩
  by_cases h4 : f.op = 4
  · have hxo : x.op = 4 := by rw [HXE.out.1]; exact h4
    rw [h4] at e0
    have hst : stepP xn H p x s (k : Int) h_ = walkTo xn H (walkTo xn H { s with no := s.no || decide (h_ < 1) } f.dst (h_ - 1)) ((k : Int) + 1) (h_ - 1) := by unfold stepP; simp only [hxo, HXE.out.2.1, HXE.out.2.2.1, HXE.out.2.2.2]; first | rfl | (simp; done)
    have HST := Lib.hid hst
    clear hst hxo
    cases hno : s.no with
    | true =>
      rw [hno] at c15
      have hbb : (s.no || decide (h_ < 1)) = true := by rw [hno]; rfl
      have HBB := Lib.hid hbb
      clear hbb
      go_upto_region 20 with fail
      have HW4 := Lib.hid (HW3.out.setNo true)
      have HB4 := Lib.hid (show Blk (w3.setCell ⟨W, 15, none⟩ (.bool true)) g 46 f.arr from HB3.out.far HNE.out _)
      generalize (w3.setCell ⟨W, 15, none⟩ (.bool true)) = w4 at *
      clear c15 f15 e0
      have e21 : w4.cell? ⟨g, 21, none⟩ = some (.int .i64 f.dst) := HB4.out.cell 21
      have HG := Lib.hid (to_any w0 W hb c (some ⟨b, o, none⟩) xn xc H wv { s with no := true } f.dst (h_ - 1) w4 HW4.out (by have := HWL.out; show s.wait.length ≤ _; omega))
      have HT := Lib.hid (HST.out.trans (by rw [HBB.out]))
      have HQ := Lib.hid (show (walkTo xn H { s with no := true } f.dst (h_ - 1)).wait.length ≤ 1099511627776 from Nat.le_trans walkTo_wait (by have := HWL.out; show s.wait.length + 1 ≤ _; omega))
      clear HST HBB
      generalize walkTo xn H { s with no := true } f.dst (h_ - 1) = s5 at *
      go_upto_region 21 with (go_at_call 28; refine HG.out.mono ?_; rintro e w5 ⟨rfl, wv5, hw5⟩)
      have HC5 := Lib.hid (to_any w0 W hb c (some ⟨b, o, none⟩) xn xc H wv5 s5 ((k : Int) + 1) (h_ - 1) w5 hw5 HQ.out)
      clear hw5
      go_wp2_with (go_at_call 28; refine HC5.out.mono ?_; rintro e w' ⟨rfl, wv', hw'⟩)
      go_end0
      exact ⟨rfl, wv', by rw [HT.out]; exact hw'⟩
    | false =>
      rw [hno] at c15
      by_cases h1 : h_ < 1
      · have H1 := Lib.hid h1
        have hbb : (s.no || decide (h_ < 1)) = true := by rw [hno, decide_eq_true H1.out]; rfl
        have HBB := Lib.hid hbb
        clear hbb
        go_upto_region 20 with fail
        have HW4 := Lib.hid (HW3.out.setNo true)
        have HB4 := Lib.hid (show Blk (w3.setCell ⟨W, 15, none⟩ (.bool true)) g 46 f.arr from HB3.out.far HNE.out _)
        generalize (w3.setCell ⟨W, 15, none⟩ (.bool true)) = w4 at *
        clear c15 f15 e0
        have e21 : w4.cell? ⟨g, 21, none⟩ = some (.int .i64 f.dst) := HB4.out.cell 21
        have HG := Lib.hid (to_any w0 W hb c (some ⟨b, o, none⟩) xn xc H wv { s with no := true } f.dst (h_ - 1) w4 HW4.out (by have := HWL.out; show s.wait.length ≤ _; omega))
        have HT := Lib.hid (HST.out.trans (by rw [HBB.out]))
        have HQ := Lib.hid (show (walkTo xn H { s with no := true } f.dst (h_ - 1)).wait.length ≤ 1099511627776 from Nat.le_trans walkTo_wait (by have := HWL.out; show s.wait.length + 1 ≤ _; omega))
        clear HST HBB
        generalize walkTo xn H { s with no := true } f.dst (h_ - 1) = s5 at *
        go_upto_region 21 with (go_at_call 28; refine HG.out.mono ?_; rintro e w5 ⟨rfl, wv5, hw5⟩)
        have HC5 := Lib.hid (to_any w0 W hb c (some ⟨b, o, none⟩) xn xc H wv5 s5 ((k : Int) + 1) (h_ - 1) w5 hw5 HQ.out)
        clear hw5
        go_wp2_with (go_at_call 28; refine HC5.out.mono ?_; rintro e w' ⟨rfl, wv', hw'⟩)
        go_end0
        exact ⟨rfl, wv', by rw [HT.out]; exact hw'⟩
      · have H1 := Lib.hid h1
        have hbb : (s.no || decide (h_ < 1)) = false := by rw [hno, decide_eq_false H1.out]; rfl
        have HBB := Lib.hid hbb
        clear hbb
        go_upto_region 20 with fail
        have HW4 := Lib.hid (HW3.out.setNo false)
        have HB4 := Lib.hid (show Blk (w3.setCell ⟨W, 15, none⟩ (.bool false)) g 46 f.arr from HB3.out.far HNE.out _)
        generalize (w3.setCell ⟨W, 15, none⟩ (.bool false)) = w4 at *
        clear c15 f15 e0
        have e21 : w4.cell? ⟨g, 21, none⟩ = some (.int .i64 f.dst) := HB4.out.cell 21
        have HG := Lib.hid (to_any w0 W hb c (some ⟨b, o, none⟩) xn xc H wv { s with no := false } f.dst (h_ - 1) w4 HW4.out (by have := HWL.out; show s.wait.length ≤ _; omega))
        have HT := Lib.hid (HST.out.trans (by rw [HBB.out]))
        have HQ := Lib.hid (show (walkTo xn H { s with no := false } f.dst (h_ - 1)).wait.length ≤ 1099511627776 from Nat.le_trans walkTo_wait (by have := HWL.out; show s.wait.length + 1 ≤ _; omega))
        clear HST HBB
        generalize walkTo xn H { s with no := false } f.dst (h_ - 1) = s5 at *
        go_upto_region 21 with (go_at_call 28; refine HG.out.mono ?_; rintro e w5 ⟨rfl, wv5, hw5⟩)
        have HC5 := Lib.hid (to_any w0 W hb c (some ⟨b, o, none⟩) xn xc H wv5 s5 ((k : Int) + 1) (h_ - 1) w5 hw5 HQ.out)
        clear hw5
        go_wp2_with (go_at_call 28; refine HC5.out.mono ?_; rintro e w' ⟨rfl, wv', hw'⟩)
        go_end0
        exact ⟨rfl, wv', by rw [HT.out]; exact hw'⟩
  by_cases h5 : f.op = 5
  · have hxo : x.op = 5 := by rw [HXE.out.1]; exact h5
    rw [h5] at e0
    have hst : stepP xn H p x s (k : Int) h_ = walkTo xn H s f.dst h_ := by unfold stepP; simp only [hxo, HXE.out.2.1, HXE.out.2.2.1, HXE.out.2.2.2]; first | rfl | (simp; done)
    have HST := Lib.hid hst
    clear hst hxo
    have e21 : w3.cell? ⟨g, 21, none⟩ = some (.int .i64 f.dst) := HB3.out.cell 21
    have HG := Lib.hid (to_any w0 W hb c (some ⟨b, o, none⟩) xn xc H wv s f.dst h_ w3 HW3.out (by have := HWL.out; omega))
    have HT := HST
    clear HST
    go_wp2_with (go_at_call 28; refine HG.out.mono ?_; rintro e w' ⟨rfl, wv', hw'⟩)
    go_end0
    exact ⟨rfl, wv', by rw [HT.out]; exact hw'⟩
  by_cases h15 : f.op = 15
  · have hxo : x.op = 15 := by rw [HXE.out.1]; exact h15
    rw [h15] at e0
    have hst : stepP xn H p x s (k : Int) h_ = { s with no := s.no || decide (h_ < (p.results.length : Int)) } := by unfold stepP; simp only [hxo, HXE.out.2.1, HXE.out.2.2.1, HXE.out.2.2.2]; first | rfl | (simp; done)
    have HST := Lib.hid hst
    clear hst hxo
    have c9 : w3.cell? ⟨W, 9, none⟩ = some (.slice c.rsA c.rsn c.rsc) := HW3.out.blk.cell 9
    have hrs : (p.results.length : Int) = (c.rsn : Int) := by have := HC.out.lens; omega
    rw [hrs] at HST
    clear hrs
    generalize c.rsA = rsA at *
    generalize c.rsn = rsn at *
    generalize c.rsc = rsc at *
    cases hno : s.no with
    | true =>
      rw [hno] at c15
      have HT := Lib.hid (HST.out.trans (show _ = ({ s with no := true } : WP) by rw [hno]; rfl))
      go_wp2_with fail
      go_end0
      exact ⟨rfl, wv, by rw [HT.out]; exact HW3.out.setNo true⟩
    | false =>
      rw [hno] at c15
      by_cases h1 : h_ < (rsn : Int)
      · have HT := Lib.hid (HST.out.trans (show _ = ({ s with no := true } : WP) by rw [hno, decide_eq_true h1]; rfl))
        go_wp2_with fail
        go_end0
        exact ⟨rfl, wv, by rw [HT.out]; exact HW3.out.setNo true⟩
      · have HT := Lib.hid (HST.out.trans (show _ = ({ s with no := false } : WP) by rw [hno, decide_eq_false h1]; rfl))
        go_wp2_with fail
        go_end0
        exact ⟨rfl, wv, by rw [HT.out]; exact HW3.out.setNo false⟩
  by_cases h0 : f.op = 0
  · have hxo : x.op = 0 := by rw [HXE.out.1]; exact h0
    rw [h0] at e0
    have hst : stepP xn H p x s (k : Int) h_ = s := by unfold stepP; simp only [hxo, HXE.out.2.1, HXE.out.2.2.1, HXE.out.2.2.2]; first | rfl | (simp; done)
    have HST := Lib.hid hst
    clear hst hxo
    have HT := HST
    clear HST
    go_wp2_with fail
    go_end0
    exact ⟨rfl, wv, by rw [HT.out]; exact HW3.out⟩
  have m12 : ¬ (f.op : Int) = 12 := by omega
  have m13 : ¬ (f.op : Int) = 13 := by omega
  have m14 : ¬ (f.op : Int) = 14 := by omega
  have m4 : ¬ (f.op : Int) = 4 := by omega
  have m5 : ¬ (f.op : Int) = 5 := by omega
  have m15 : ¬ (f.op : Int) = 15 := by omega
  have m0 : ¬ (f.op : Int) = 0 := by omega
  have hst : stepP xn H p x s (k : Int) h_ = walkTo xn H { s with no := s.no || decide (h_ < ((EffectP p x.ins .nil .nil).1 : Int)) } ((k : Int) + 1) (h_ - ((EffectP p x.ins .nil .nil).1 : Int) + ((EffectP p x.ins .nil .nil).2.1 : Int)) := by
    unfold stepP
    simp only [HXE.out.1, h12, h13, h14, h4, h5, h15, h0, if_false]
  have HST := Lib.hid hst
  clear hst
  have HIN := Lib.hid (fun w' => instr_any f w')
  have HEF := Lib.hid (fun (w' : World) (hk : Kept S0 w0 w') => eff_any c p f.ic x.ins .nil .nil w' (HC.out.kept0 hk) (HFL.out.ins.kept0 hk) (by decide) (HSP.out.kept0 hk))
  have HEB := Lib.hid (EffectP_le p x.ins .nil .nil HC.out)
  generalize EffectP p x.ins .nil .nil = ep at *
  generalize f.op = fop at *
  have HHH := Lib.hid hh
  have HUA := Lib.hid ua
  clear us ua hk40 hh
  go_upto_region 5 with fail
  go_upto_region 7 with fail
  go_upto_region 11 with fail
  go_upto_region 18 with fail
  go_upto_region 22 with fail
  go_upto_region 24 with fail
  go_upto_region 26 with fail
  go_upto_region 2 with fail
  have HCX := Lib.hid (show ∀ w', Kept S0 w3 w' → ∀ j, j < c.arr.size → w'.cell? ((⟨W, 0, none⟩ : Addr).add j) = c.arr[j]? from fun w' hk' j hj => by
    rw [addr_add, Nat.zero_add]
    have hb' := (hk'.blk HW3.out.blk (fun x => x)).cell j
    have hj' : j < 11 := hj
    rw [hb']
    have : j = 0 ∨ j = 1 ∨ j = 2 ∨ j = 3 ∨ j = 4 ∨ j = 5 ∨ j = 6 ∨ j = 7 ∨ j = 8 ∨ j = 9 ∨ j = 10 := by omega
    rcases this with rfl | rfl | rfl | rfl | rfl | rfl | rfl | rfl | rfl | rfl | rfl <;> rfl)
  refine wp_region_R (fun w' => Kept S0 w3 w') [] (by kernel_rfl) ?_
  have hS : Kept S0 w3 w3.drew := (Kept.refl S0 w3).drew
  generalize w3.drew = w4 at *
  refine wpAnyR_take 0 (v := ?_) rfl (by kernel_rfl) (by kernel_rfl) (by kernel_rfl) (by kernel_rfl) (fun _ _ _ h => h) hS ⟨by rfl, ?_⟩ ?_
  rotate_left; (intro w hSw; (try dsimp only at hSw); first | (go_simp; done) | (go_simp; with_reducible rfl))
  simp only [List.getElem_toArray, List.getElem_cons_zero, Act.put, List.setIfInBounds_toArray, List.set_cons_zero, List.set_cons_succ]
  refine wpAnyR_take 1 (v := ?_) rfl (by kernel_rfl) (by kernel_rfl) (by kernel_rfl) (by kernel_rfl) (fun _ _ _ h => h) hS ⟨by rfl, ?_⟩ ?_
  rotate_left; (intro w hSw; (try dsimp only at hSw); first | (go_simp; done) | (go_simp; with_reducible rfl))
  simp only [List.getElem_toArray, List.getElem_cons_zero, List.getElem_cons_succ, Act.put, List.setIfInBounds_toArray, List.set_cons_zero, List.set_cons_succ]
  refine wpAnyR_take 2 (v := ?_) rfl (by kernel_rfl) (by kernel_rfl) (by kernel_rfl) (by kernel_rfl) (fun _ _ _ h => h) hS ⟨by rfl, ?_⟩ ?_
  rotate_left; (intro w hSw; (try dsimp only at hSw); first | (go_simp; done) | (go_simp; with_reducible rfl))
  simp only [List.getElem_toArray, List.getElem_cons_zero, List.getElem_cons_succ, Act.put, List.setIfInBounds_toArray, List.set_cons_zero, List.set_cons_succ]
  refine wpAnyR_take 3 (v := .agg c.arr) rfl (by kernel_rfl) (by kernel_rfl) (by kernel_rfl) (by kernel_rfl) (fun _ _ _ h => h) hS ⟨by rfl, fun w hSw => exec_load_cells 30 _ rfl w ⟨W, 0, none⟩ rfl c.arr _ (HCX.out w hSw) Tryd.underlying30 rfl (by kernel_rfl)⟩ ?_
  simp only [List.getElem_toArray, List.getElem_cons_zero, List.getElem_cons_succ, Act.put, List.setIfInBounds_toArray, List.set_cons_zero, List.set_cons_succ]
  refine wpAnyR_take 4 (v := .agg f.arr) rfl (by kernel_rfl) (by kernel_rfl) (by kernel_rfl) (by kernel_rfl) (fun _ _ _ h => h) hS ⟨by rfl, fun w hSw => exec_load_row 46 _ rfl w g rfl 46 f.arr (0, 0) _ (hSw.blk HB3.out (fun x => x)) Tryd.underlying46 rfl (by kernel_rfl)⟩ ?_
  simp only [List.getElem_toArray, List.getElem_cons_zero, List.getElem_cons_succ, Act.put, List.setIfInBounds_toArray, List.set_cons_zero, List.set_cons_succ]
  refine wpAnyR_one 5 rfl (by kernel_rfl) (fun K hK => ?_)
  go_simp
  go_at_call 46
  refine (HIN.out w4).mono ?_
  rintro e w5 ⟨rfl, hk5⟩
  have hS5 := hS.then0 hk5
  refine hK.out _ _ (fun _ => hS5) ?_
  clear hK K hS hk5
  refine wpAnyR_one 6 rfl (by kernel_rfl) (fun K hK => ?_)
  go_simp
  go_at_call 45
  refine (HEF.out w5 (HW3.out.kept.then0 hS5)).mono ?_
  unfold tri
  rintro e w6 ⟨rfl, hk6⟩
  have hS6 := hS5.then0 hk6
  refine hK.out _ _ (fun _ => hS6) ?_
  clear hK K hS5 hk6
  refine wpAnyR_take 7 (v := ?_) rfl (by kernel_rfl) (by kernel_rfl) (by kernel_rfl) (by kernel_rfl) (fun _ _ _ h => h) hS6 ⟨by rfl, ?_⟩ ?_
  rotate_left; (intro w hSw; (try dsimp only at hSw); first | (go_simp; done) | (go_simp; with_reducible rfl))
  simp only [List.getElem_toArray, List.getElem_cons_zero, List.getElem_cons_succ, Act.put, List.setIfInBounds_toArray, List.set_cons_zero, List.set_cons_succ]
  refine wpAnyR_take 8 (v := ?_) rfl (by kernel_rfl) (by kernel_rfl) (by kernel_rfl) (by kernel_rfl) (fun _ _ _ h => h) hS6 ⟨by rfl, ?_⟩ ?_
  rotate_left; (intro w hSw; (try dsimp only at hSw); first | (go_simp; done) | (go_simp; with_reducible rfl))
  simp only [List.getElem_toArray, List.getElem_cons_zero, List.getElem_cons_succ, Act.put, List.setIfInBounds_toArray, List.set_cons_zero, List.set_cons_succ]
  refine wpAnyR_take 9 (v := ?_) rfl (by kernel_rfl) (by kernel_rfl) (by kernel_rfl) (by kernel_rfl) (fun _ _ _ h => h) hS6 ⟨by rfl, ?_⟩ ?_
  rotate_left; (intro w hSw; (try dsimp only at hSw); first | (go_simp; done) | (go_simp; with_reducible rfl))
  simp only [List.getElem_toArray, List.getElem_cons_zero, List.getElem_cons_succ, Act.put, List.setIfInBounds_toArray, List.set_cons_zero, List.set_cons_succ]
  refine wpAnyR_take 10 (v := ?_) rfl (by kernel_rfl) (by kernel_rfl) (by kernel_rfl) (by kernel_rfl) (fun _ _ _ h => h) hS6 ⟨by rfl, ?_⟩ ?_
  rotate_left; (intro w hSw; (try dsimp only at hSw); first | (go_simp; done) | (go_simp; with_reducible rfl))
  simp only [List.getElem_toArray, List.getElem_cons_zero, List.getElem_cons_succ, Act.put, List.setIfInBounds_toArray, List.set_cons_zero, List.set_cons_succ]
  refine wpAnyR_take 11 (v := ?_) rfl (by kernel_rfl) (by kernel_rfl) (by kernel_rfl) (by kernel_rfl) (fun _ _ _ h => h) hS6 ⟨by rfl, ?_⟩ ?_
  rotate_left; (intro w hSw; (try dsimp only at hSw); first | (go_simp; done) | (go_simp; with_reducible rfl))
  simp only [List.getElem_toArray, List.getElem_cons_zero, List.getElem_cons_succ, Act.put, List.setIfInBounds_toArray, List.set_cons_zero, List.set_cons_succ]
  refine wpAnyR_take 12 (v := ?_) rfl (by kernel_rfl) (by kernel_rfl) (by kernel_rfl) (by kernel_rfl) (fun _ _ _ h => h) hS6 ⟨by rfl, ?_⟩ ?_
  rotate_left; (intro w hSw; (try dsimp only at hSw); first | (go_simp; done) | (go_simp; with_reducible rfl))
  simp only [List.getElem_toArray, List.getElem_cons_zero, List.getElem_cons_succ, Act.put, List.setIfInBounds_toArray, List.set_cons_zero, List.set_cons_succ]
  refine wpAnyR_take 13 (v := ?_) rfl (by kernel_rfl) (by kernel_rfl) (by kernel_rfl) (by kernel_rfl) (fun _ _ _ h => h) hS6 ⟨by rfl, ?_⟩ ?_
  rotate_left; (intro w hSw; (try dsimp only at hSw); first | (go_simp; done) | (go_simp; with_reducible rfl))
  simp only [List.getElem_toArray, List.getElem_cons_zero, List.getElem_cons_succ, Act.put, List.setIfInBounds_toArray, List.set_cons_zero, List.set_cons_succ]
  refine wpAnyR_done (by kernel_rfl) ?_ _
  have HW6 := Lib.hid (HW3.out.kept0 hS6)
  have c15 : w6.cell? ⟨W, 15, none⟩ = some (.bool s.no) := HW6.out.blk.cell 15
  have f15 := HW6.out.blk.frozen 15
  clear hS6 HIN HEF
  obtain ⟨tk, lv, er⟩ := ep
  simp only at *
  have htk : (tk : Int) ≤ 1000000000000000 := by have := HEB.out.1; omega
  have hlv : (lv : Int) ≤ 1000000000000000 := by have := HEB.out.2; omega
  have ut : IntKind.i64.wrap (h_ - (tk : Int)) = h_ - (tk : Int) := IntWalk.i64_in _ (by have := HHH.out; omega)
  have ul : IntKind.i64.wrap (h_ - (tk : Int) + (lv : Int)) = h_ - (tk : Int) + (lv : Int) := IntWalk.i64_in _ (by have := HHH.out; omega)
  have ua := HUA.out
  cases hno : s.no with
  | true =>
    rw [hno] at c15
    have hbb : (s.no || decide (h_ < (tk : Int))) = true := by rw [hno]; rfl
    have HBB := Lib.hid hbb
    clear hbb
    go_upto_region 4 with fail
    have HW4 := Lib.hid (HW6.out.setNo true)
    generalize (w6.setCell ⟨W, 15, none⟩ (.bool true)) = w4 at *
    clear c15 f15
    have HT := Lib.hid (HST.out.trans (by rw [HBB.out]))
    clear HST HBB
    have HC5 := Lib.hid (to_any w0 W hb c (some ⟨b, o, none⟩) xn xc H wv { s with no := true } ((k : Int) + 1) (h_ - (tk : Int) + (lv : Int)) w4 HW4.out (by have := HWL.out; show s.wait.length ≤ _; omega))
    go_wp2_with (go_at_call 28; refine HC5.out.mono ?_; rintro e w' ⟨rfl, wv', hw'⟩)
    go_end0
    exact ⟨rfl, wv', by rw [HT.out]; exact hw'⟩
  | false =>
    rw [hno] at c15
    by_cases h1 : h_ < (tk : Int)
    · have H1 := Lib.hid h1
      have hbb : (s.no || decide (h_ < (tk : Int))) = true := by rw [hno, decide_eq_true H1.out]; rfl
      have HBB := Lib.hid hbb
      clear hbb
      go_upto_region 4 with fail
      have HW4 := Lib.hid (HW6.out.setNo true)
      generalize (w6.setCell ⟨W, 15, none⟩ (.bool true)) = w4 at *
      clear c15 f15
      have HT := Lib.hid (HST.out.trans (by rw [HBB.out]))
      clear HST HBB
      have HC5 := Lib.hid (to_any w0 W hb c (some ⟨b, o, none⟩) xn xc H wv { s with no := true } ((k : Int) + 1) (h_ - (tk : Int) + (lv : Int)) w4 HW4.out (by have := HWL.out; show s.wait.length ≤ _; omega))
      go_wp2_with (go_at_call 28; refine HC5.out.mono ?_; rintro e w' ⟨rfl, wv', hw'⟩)
      go_end0
      exact ⟨rfl, wv', by rw [HT.out]; exact hw'⟩
    · have H1 := Lib.hid h1
      have hbb : (s.no || decide (h_ < (tk : Int))) = false := by rw [hno, decide_eq_false H1.out]; rfl
      have HBB := Lib.hid hbb
      clear hbb
      go_upto_region 4 with fail
      have HW4 := Lib.hid (HW6.out.setNo false)
      generalize (w6.setCell ⟨W, 15, none⟩ (.bool false)) = w4 at *
      clear c15 f15
      have HT := Lib.hid (HST.out.trans (by rw [HBB.out]))
      clear HST HBB
      have HC5 := Lib.hid (to_any w0 W hb c (some ⟨b, o, none⟩) xn xc H wv { s with no := false } ((k : Int) + 1) (h_ - (tk : Int) + (lv : Int)) w4 HW4.out (by have := HWL.out; show s.wait.length ≤ _; omega))
      go_wp2_with (go_at_call 28; refine HC5.out.mono ?_; rintro e w' ⟨rfl, wv', hw'⟩)
      go_end0
      exact ⟨rfl, wv', by rw [HT.out]; exact hw'⟩
end Go.Proofs.YtfmblalbcodpmaaDoor
namespace Go.Proofs.YtfmblalbcodpmaaDoor
open Go.RowKit
/-- What holds between steps. -/
structure Good (xn : Nat) (H : Int) (s : WP) : Prop where
  len : s.high.length = xn
  wait : ∀ a ∈ s.wait, 0 ≤ a ∧ a < (xn : Int)
  le : ∀ v ∈ s.high, v = -1 ∨ v ≤ H
  ge : s.no = false → ∀ a ∈ s.wait, 0 ≤ s.high.getD a.toNat 0
section
variable {xn : Nat} {H : Int} {s : WP} {at_ v : Int}
theorem mem_set_or {l : List Int} {k : Nat} {x y : Int} (h : y ∈ l.set k x) : y = x ∨ y ∈ l := by
  rcases List.mem_or_eq_of_mem_set h with h | h
  · exact .inr h
  · exact .inl h
theorem getD_set {l : List Int} {k j : Nat} {x : Int} (hk : k < l.length) : (l.set k x).getD j 0 = if j = k then x else l.getD j 0 := by
  simp only [List.getD_eq_getElem?_getD, List.getElem?_set]
  by_cases h : k = j
  · subst h; simp [hk]
  · simp [h, show ¬ j = k from fun e => h e.symm]
theorem Good.no (h : Good xn H s) : Good xn H { s with no := true } := ⟨h.len, h.wait, h.le, fun e => absurd e (by simp)⟩
theorem Good.or (h : Good xn H s) (b : Bool) : Good xn H { s with no := s.no || b } := ⟨h.len, h.wait, h.le, fun e => h.ge (by simp only [Bool.or_eq_false_iff] at e; exact e.1)⟩
/-- A number that may be negative, if it is refused. -/
theorem Good.walkTo (h : Good xn H s) (hv : s.no = false → 0 ≤ v) : Good xn H (walkTo xn H s at_ v) := by
  unfold Proofs.YtfmblalbcodpmaaDoor.walkTo
  split
  · exact h.no
  · rename_i h1
    have hl := h.len
    split
    · refine ⟨by simpa using hl, fun a ha => ?_, fun y hy => ?_, fun hn a ha => ?_⟩
      · simp only [List.mem_append, List.mem_singleton] at ha
        rcases ha with ha | rfl
        · exact h.wait a ha
        · omega
      · rcases mem_set_or hy with rfl | hy
        · exact .inr (by omega)
        · exact h.le y hy
      · simp only
        rw [getD_set (by omega)]
        split
        · exact hv hn
        · simp only [List.mem_append, List.mem_singleton] at ha
          rcases ha with ha | rfl
          · exact h.ge hn a ha
          · rename_i h2; exact absurd rfl h2
    · split
      · exact h
      · exact h.no
theorem walkTo_no (h : s.no = true) : (walkTo xn H s at_ v).no = true := by
  unfold Proofs.YtfmblalbcodpmaaDoor.walkTo
  split
  · rfl
  · split
    · exact h
    · split
      · exact h
      · rfl
theorem Good.goalP {g : Int × Int × Int} (h : Good xn H s) : Good xn H (goalP xn H s g v) := by
  unfold Proofs.YtfmblalbcodpmaaDoor.goalP
  split
  · exact h.no
  · exact h.walkTo (fun _ => by omega)
theorem goalP_no {g : Int × Int × Int} (h : s.no = true) : (goalP xn H s g v).no = true := by
  unfold Proofs.YtfmblalbcodpmaaDoor.goalP
  split
  · rfl
  · exact walkTo_no h
theorem goals_no : ∀ (L : List (Int × Int × Int)) (s : WP), s.no = true → (L.foldl (fun s g => goalP xn H s g v) s).no = true
  | [], _, h => h
  | _ :: r, _, h => goals_no r _ (goalP_no h)
theorem goals_good : ∀ (L : List (Int × Int × Int)) (s : WP), Good xn H s → Good xn H (L.foldl (fun s g => goalP xn H s g v) s)
  | [], _, h => h
  | _ :: r, _, h => goals_good r _ h.goalP
/-- Where it goes on with a number that is not negative, or no. -/
theorem walkTo_phi2 (hl : s.high.length = xn) (hv : s.no = false → 0 ≤ v) : (walkTo xn H s at_ v).no = false → phi (walkTo xn H s at_ v) ≤ phi s := fun hn => by
  cases h : s.no with
  | true => rw [walkTo_no h] at hn; cases hn
  | false => exact walkTo_phi hl (hv h)
theorem or_false {a b : Bool} (h : (a || b) = false) : a = false ∧ b = false := by simpa using h
theorem stepP_good {p : CtxP} {x : FlP} {h_ : Int} (h : Good xn H s) (h0 : 0 ≤ h_) : Good xn H (stepP xn H p x s at_ h_) := by
  unfold stepP
  have hd : ∀ (m : Int), (s.no || decide (h_ < m)) = false → m ≤ h_ := fun m e => by simpa using (or_false e).2
  split
  · exact h.goalP
  split
  · refine Good.walkTo (Good.goalP (h.or _)) (fun e => ?_)
    cases hq : (s.no || decide (h_ < 1)) with
    | true => rw [goalP_no hq] at e; cases e
    | false => have := hd 1 hq; omega
  split
  · exact goals_good _ _ (h.or _)
  split
  · refine Good.walkTo (Good.walkTo (h.or _) (fun e => ?_)) (fun e => ?_)
    · have := hd 1 e; omega
    · cases hq : (s.no || decide (h_ < 1)) with
      | true => rw [walkTo_no hq] at e; cases e
      | false => have := hd 1 hq; omega
  split
  · exact h.walkTo (fun _ => h0)
  split
  · exact h.or _
  split
  · exact h
  · refine Good.walkTo (h.or _) (fun e => ?_)
    have := hd _ e
    omega
theorem stepP_phi {p : CtxP} {x : FlP} {h_ : Int} (hl : s.high.length = xn) (h0 : 0 ≤ h_) : (stepP xn H p x s at_ h_).no = false → phi (stepP xn H p x s at_ h_) ≤ phi s := by
  have hd : ∀ (m : Int), (s.no || decide (h_ < m)) = false → m ≤ h_ := fun m e => by simpa using (or_false e).2
  have hb : ∀ b : Bool, phi { s with no := b } = phi s := fun _ => rfl
  unfold stepP
  split
  · exact fun _ => goalP_phi hl
  split
  · intro e
    refine Nat.le_trans (walkTo_phi2 (goalP_len (by exact hl)) (fun e => ?_) e) (goalP_phi (by exact hl))
    cases hq : (s.no || decide (h_ < 1)) with
    | true => rw [goalP_no hq] at e; cases e
    | false => have := hd 1 hq; omega
  split
  · intro _
    exact goals_phi _ _ (by exact hl)
  split
  · intro e
    cases hq : (s.no || decide (h_ < 1)) with
    | true => rw [hq, walkTo_no (walkTo_no rfl)] at e; cases e
    | false =>
      have := hd 1 hq
      exact Nat.le_trans (walkTo_phi (walkTo_len (by exact hl)) (by omega)) (walkTo_phi (by exact hl) (by omega))
  split
  · exact fun _ => walkTo_phi hl h0
  split
  · exact fun _ => Nat.le_refl _
  split
  · exact fun _ => Nat.le_refl _
  · intro e
    exact walkTo_phi2 (s := { s with no := s.no || decide (h_ < ((EffectP p x.ins .nil .nil).1 : Int)) }) hl (fun e => by have := hd _ e; omega) e
end
/-- The walk: so many steps at most. -/
def runP (xn : Nat) (H : Int) (p : CtxP) (l : List FlP) : Nat → WP → WP
  | 0, s => s
  | f + 1, s => if s.no = true then s else match s.wait.getLast? with
    | none => s
    | some a => match l[a.toNat]? with
      | none => s
      | some x => runP xn H p l f (stepP xn H p x { s with wait := s.wait.dropLast } a (s.high.getD a.toNat 0))
def initW (xn : Nat) : WP := ⟨List.replicate xn (-1), [], false⟩
/-- What Heights answers. -/
def heightsP (p : CtxP) (l : List FlP) (H : Int) : Option (List Int) :=
  if l.length < 1 ∨ 65536 < l.length ∨ (l.any fun x => !namedP p x) = true then none
  else
    let s := runP l.length H p l (l.length + 2) (walkTo l.length H (initW l.length) 0 0)
    if s.no = true then none else some s.high
end Go.Proofs.YtfmblalbcodpmaaDoor
