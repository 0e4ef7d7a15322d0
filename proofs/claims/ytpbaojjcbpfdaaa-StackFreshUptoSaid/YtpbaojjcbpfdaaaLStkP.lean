/- The walk of the statement StackPlays. No condition. -/
import Derived.Test.YtpbaojjcbpfdaaaStkBs
namespace Go.Proofs.Ytpbaojjcbpfdaaa
open Go.RowKit

theorem Came.away {X : Nat → Prop} {w : World} {A : Option Addr} {n c g : Nat} {v : Nat → UInt8} {t : TypeId} {cs : Array Value} (h : Came X w A n c v) (hb : Blk w g t cs) (hc : ∀ (i : Nat) (x : Value), cs[i]? = some x → ∀ k z, x ≠ Value.int k z) : Came (fun i => X i ∨ i = g) w A n c v :=
  { sl := fun hn => (by
      obtain ⟨b, o, e, hx, r⟩ := h.sl hn
      refine ⟨b, o, e, fun hh => ?_, r⟩
      rcases hh with hh | hh
      · exact hx hh
      · subst hh
        have h1 := r 0 hn
        rw [hb.cell] at h1
        exact hc _ _ h1 _ _ rfl),
    none := h.none, le := h.le }

theorem FrsOk.away {X : Nat → Prop} {w : World} {G : Nat → Value} {k g : Nat} {D : Nat → Frm} {t : TypeId} {cs : Array Value} (h : FrsOk X w G k D) (hb : Blk w g t cs) (hc : ∀ (i : Nat) (x : Value), cs[i]? = some x → ∀ k z, x ≠ Value.int k z) : FrsOk (fun i => X i ∨ i = g) w G k D := fun q hq => by
  obtain ⟨A, c, B, e, h1, h2, h3⟩ := h q hq
  exact ⟨A, c, B, e, h1, h2.away hb hc, h3.away hb hc⟩

/-- What is in a box of slices is no list's memory. -/
theorem ModIs.away {X : Nat → Prop} {w : World} {mv : Value} {s : St} {g : Nat} {t : TypeId} {cs : Array Value} (h : ModIs X w mv s) (hb : Blk w g t cs) (hc : ∀ (i : Nat) (x : Value), cs[i]? = some x → ∀ k z, x ≠ Value.int k z) : ModIs (fun i => X i ∨ i = g) w mv s := by
  obtain ⟨V, cv, Fa, cf, G, h1, h2⟩ := h.ex
  refine ⟨V, cv, Fa, cf, G, h1, h2.nc, h2.kc, h2.vals.away hb hc, fun hn => ?_, h2.nil, h2.fr.away hb hc⟩
  obtain ⟨b, o, e, hx, r⟩ := h2.frs hn
  refine ⟨b, o, e, fun hh => ?_, r⟩
  rcases hh with hh | hh
  · exact hx hh
  · subst hh
    have h3 := r 0 hn
    rw [hb.cell] at h3
    obtain ⟨A, c, B, e', hf, _, _⟩ := h2.fr 0 (by omega)
    have h4 : G 0 = .int .u16 (s.D 0).op := hf.f0
    rw [h4] at h3
    exact hc _ _ h3 _ _ rfl

theorem two_slices {A B : Option Addr} {n c m d : Nat} : ∀ (i : Nat) x, (#[Value.slice A n c, Value.slice B m d] : Array Value)[i]? = some x → ∀ k z, x ≠ Value.int k z := fun i x h k z e => by
  subst e
  match i with
  | 0 => simp at h
  | 1 => simp at h
  | i + 2 => simp at h

set_option maxRecDepth 100000 in
set_option maxHeartbeats 6400000 in
theorem stkPlays_any (L : Option Addr) (l lc : Nat) (a : Nat → ActV) (w : World) (hL : ActsAt w L l a) : Calls Try.prog 5 #[.slice L l lc] w fun e w' => e = .returned (.bool true) ∧ Kept S0 w w' := by
  have HL := Lib.hid hL
  have hll := hL.len
  clear hL
  go_enter Try.func5, Try.ntmps5
  go_wp2_with fail
  refine (newstk_any w).mono ?_
  rintro e w1 ⟨sb, rfl, hm1, hk1⟩
  have hka := (Kept.refl S0 w1).alloc (.cells #[.slice none 0 0, .slice none 0 0] 45)
  have hbm := Blk.new w1 45 #[.slice none 0 0, .slice none 0 0]
  have hsw : w.heap.size ≤ w1.heap.size := hk1.size
  have hs1 := stk_new hm1
  have hsl := hs1.sb_lt
  have hsz : (w1.alloc (.cells #[.slice none 0 0, .slice none 0 0] 45)).heap.size = w1.heap.size + 1 := by simp
  have hs2 : StkIs (w1.alloc (.cells #[.slice none 0 0, .slice none 0 0] 45)) sb w.heap.size (S1 sb) (S1 w1.heap.size) ⟨0, fun _ => 0, 0, fun _ => frm0⟩ := hs1.box hka (fun i hi => .inr (Nat.le_of_eq (Eq.symm hi))) (fun i hi => by have e : i = w1.heap.size := hi; omega)
  have HK2 := Lib.hid (hk1.then0 hka)
  have HS2 := Lib.hid hs2
  have HBM := Lib.hid hbm
  clear hm1 hk1 hka hbm hs1 hs2
  go_wp2_with fail
  generalize hmb : w1.heap.size = mb at *
  go_loopw [5] (fun i wr => ∃ (j : Nat) (s : St) (X : Nat → Prop) (V Fa : Option Addr) (cv cf : Nat), i = .int .i64 (j : Int) ∧ j ≤ 80 ∧ j ≤ l ∧ StkIs wr sb w.heap.size X (S1 mb) s ∧ s.Wf ∧ ModIs X wr (.agg #[.slice V s.n cv, .slice Fa s.k cf]) s ∧ Blk wr mb 45 #[.slice V s.n cv, .slice Fa s.k cf] ∧ ¬ X mb ∧ s.n ≤ j * 1048576 ∧ s.k ≤ j ∧ Kept (SB w.heap.size) w wr) (fun i _ => l - (intOf i).toNat)
  case atStart => exact ⟨0, _, S1 sb, none, none, 0, 0, rfl, by omega, by omega, HS2.out, wf_new, mod_new, HBM.out, fun e => by have e' : mb = sb := e; omega, by simp, by simp, HK2.out.of0 _⟩
  case round =>
    obtain ⟨j, s, X, V, Fa, cv, cf, rfl, hj80, hjl, hS, hW, hM, hB, hX, hn, hk, hK⟩ := hrel
    have HS := Lib.hid hS
    have HM := Lib.hid hM
    have HB := Lib.hid hB
    have HK := Lib.hid hK
    have HW := Lib.hid hW
    have HX := Lib.hid hX
    by_cases hlt : j < l ∧ j < 80
    · obtain ⟨h1, h2⟩ := hlt
      have hji : (j : Int) < (l : Int) := by omega
      have hj8 : (j : Int) < 80 := by omega
      have hj0 : (0 : Int) ≤ (j : Int) := by omega
      have uj : IntKind.i64.wrap ((j : Int) + 1) = (j : Int) + 1 := IntWalk.i64_in _ (by omega)
      obtain ⟨b, o, hLe, hact⟩ := HL.out.acts (by omega)
      subst hLe
      have ha := hact j h1
      have hdd := (Kept.refl S0 wr).drew
      have hKD := hK.then0 hdd
      have hcl : ∀ i, i < 6 → wr.drew.cell? ⟨b, o + j * 6 + i, none⟩ = some ((a j).cell i) := fun i hi => by
        have h3 := ha.cells i hi
        have hb4 : b < w.heap.size := World.block_lt_of_cell? _ _ h3
        exact (hKD.cell (p := ⟨b, o + j * 6 + i, none⟩) hb4 (fun e => by have e' : w.heap.size ≤ b := e; omega)).trans h3
      have q0 := hcl 0 (by omega)
      have q1 := hcl 1 (by omega)
      have q2 := hcl 2 (by omega)
      have q3 := hcl 3 (by omega)
      have q4 := hcl 4 (by omega)
      have q5 := hcl 5 (by omega)
      rw [Nat.add_zero] at q0
      have hbD := hdd.blk hB (fun x => x)
      have hS1 : wr.drew.cell? ⟨mb, 0, none⟩ = some (.slice V s.n cv) ∧ wr.drew.cell? ⟨mb, 1, none⟩ = some (.slice Fa s.k cf) ∧ wr.drew.cell? ⟨b, o + j * 6, none⟩ = some (.int .i64 (a j).d) ∧ wr.drew.cell? ⟨b, o + j * 6 + 1, none⟩ = some (.int .u16 (a j).o) ∧ wr.drew.cell? ⟨b, o + j * 6 + 2, none⟩ = some (.int .u32 ((a j).n : Int)) ∧ wr.drew.cell? ⟨b, o + j * 6 + 3, none⟩ = some (.int .u8 ((a j).t.toNat : Int)) ∧ wr.drew.cell? ⟨b, o + j * 6 + 4, none⟩ = some (.slice (a j).A (a j).mi (a j).c) ∧ wr.drew.cell? ⟨b, o + j * 6 + 5, none⟩ = some (.slice (a j).B (a j).k (a j).e) := ⟨hbD.cell 0, hbD.cell 1, q0, q1, q2, q3, q4, q5⟩
      have hsm := ha.small
      have hRD : Ready X (S1 mb) wr.drew sb w.heap.size s s (.agg #[.slice V s.n cv, .slice Fa s.k cf]) (a j).A (a j).mi (a j).c (a j).v (a j).B (a j).k (a j).e (a j).u := ⟨hS.kept0 hdd, hW, hM.kept0 hdd, hW, ha.inn.kept hKD, ha.out.kept hKD, by omega, by omega, by omega, by omega⟩
      have HC := Lib.hid (both_is (d := (a j).d) (o := (a j).o) (t := (a j).t) ha.ni hRD)
      have HKD := Lib.hid hKD
      have HBD := Lib.hid hbD
      clear hS hM hB hK hW hX ha hdd hKD hcl q0 q1 q2 q3 q4 q5 hbD hRD
      go_wp2_with fail
      refine wp_region_R (fun w' => w'.cell? ⟨mb, 0, none⟩ = some (.slice V s.n cv) ∧ w'.cell? ⟨mb, 1, none⟩ = some (.slice Fa s.k cf) ∧ w'.cell? ⟨b, o + j * 6, none⟩ = some (.int .i64 (a j).d) ∧ w'.cell? ⟨b, o + j * 6 + 1, none⟩ = some (.int .u16 (a j).o) ∧ w'.cell? ⟨b, o + j * 6 + 2, none⟩ = some (.int .u32 ((a j).n : Int)) ∧ w'.cell? ⟨b, o + j * 6 + 3, none⟩ = some (.int .u8 ((a j).t.toNat : Int)) ∧ w'.cell? ⟨b, o + j * 6 + 4, none⟩ = some (.slice (a j).A (a j).mi (a j).c) ∧ w'.cell? ⟨b, o + j * 6 + 5, none⟩ = some (.slice (a j).B (a j).k (a j).e)) [10] (by kernel_rfl) ?_
      generalize wr.drew = w3 at *
      refine wpAnyR_take 0 (v := ?_) rfl (by kernel_rfl) (by kernel_rfl) (by kernel_rfl) (by kernel_rfl) (fun _ _ _ h => h) hS1 ⟨by rfl, ?_⟩ ?_
      rotate_left; (intro w hSw; (try dsimp only at hSw); first | (go_simp; done) | (go_simp; with_reducible rfl))
      simp only [List.getElem_toArray, List.getElem_cons_zero, Act.put, List.setIfInBounds_toArray, List.set_cons_zero, List.set_cons_succ]
      refine wpAnyR_take 1 (v := ?_) rfl (by kernel_rfl) (by kernel_rfl) (by kernel_rfl) (by kernel_rfl) (fun _ _ _ h => h) hS1 ⟨by rfl, ?_⟩ ?_
      rotate_left; (intro w hSw; (try dsimp only at hSw); first | (go_simp; done) | (go_simp; with_reducible rfl))
      simp only [List.getElem_toArray, List.getElem_cons_zero, List.getElem_cons_succ, Act.put, List.setIfInBounds_toArray, List.set_cons_zero, List.set_cons_succ]
      refine wpAnyR_take 2 (v := ?_) rfl (by kernel_rfl) (by kernel_rfl) (by kernel_rfl) (by kernel_rfl) (fun _ _ _ h => h) hS1 ⟨by rfl, ?_⟩ ?_
      rotate_left; (intro w hSw; (try dsimp only at hSw); first | (go_simp; done) | (go_simp; with_reducible rfl))
      simp only [List.getElem_toArray, List.getElem_cons_zero, List.getElem_cons_succ, Act.put, List.setIfInBounds_toArray, List.set_cons_zero, List.set_cons_succ]
      refine wpAnyR_take 3 (v := ?_) rfl (by kernel_rfl) (by kernel_rfl) (by kernel_rfl) (by kernel_rfl) (fun _ _ _ h => h) hS1 ⟨by rfl, ?_⟩ ?_
      rotate_left; (intro w hSw; (try dsimp only at hSw); first | (go_simp; done) | (go_simp; with_reducible rfl))
      simp only [List.getElem_toArray, List.getElem_cons_zero, List.getElem_cons_succ, Act.put, List.setIfInBounds_toArray, List.set_cons_zero, List.set_cons_succ]
      refine wpAnyR_take 4 (v := ?_) rfl (by kernel_rfl) (by kernel_rfl) (by kernel_rfl) (by kernel_rfl) (fun _ _ _ h => h) hS1 ⟨by rfl, ?_⟩ ?_
      rotate_left; (intro w hSw; (try dsimp only at hSw); first | (go_simp; done) | (go_simp; with_reducible rfl))
      simp only [List.getElem_toArray, List.getElem_cons_zero, List.getElem_cons_succ, Act.put, List.setIfInBounds_toArray, List.set_cons_zero, List.set_cons_succ]
      refine wpAnyR_take 5 (v := ?_) rfl (by kernel_rfl) (by kernel_rfl) (by kernel_rfl) (by kernel_rfl) (fun _ _ _ h => h) hS1 ⟨by rfl, ?_⟩ ?_
      rotate_left; (intro w hSw; (try dsimp only at hSw); first | (go_simp; done) | (go_simp; with_reducible rfl))
      simp only [List.getElem_toArray, List.getElem_cons_zero, List.getElem_cons_succ, Act.put, List.setIfInBounds_toArray, List.set_cons_zero, List.set_cons_succ]
      refine wpAnyR_one 6 rfl (by kernel_rfl) (fun K hK6 => ?_)
      go_simp
      go_at_call 20
      refine HC.out.mono ?_
      rintro e w4 ⟨mv', bb, X', rfl, hbb, hS4, hst4, hM4⟩
      obtain rfl : bb = true := hbb (by first | trivial | rfl)
      obtain ⟨V2, Fa2, cv2, cf2, hmv⟩ : ∃ V2 Fa2 cv2 cf2, mv' = .agg #[.slice V2 (s.doAct (a j)).n cv2, .slice Fa2 (s.doAct (a j)).k cf2] := by
        obtain ⟨V2, cv2, Fa2, cf2, G2, h, _⟩ := hM4.ex
        exact ⟨V2, Fa2, cv2, cf2, h⟩
      subst hmv
      have hXm : ¬ X mb := HX.out
      have hb4 := hst4.kept.blk HBD.out hXm
      have hXm4 : ¬ X' mb := fun e => (hst4.sub mb e).elim hXm (fun h => by have := HBD.out.lt; omega)
      have hKB : Kept (SB w.heap.size) w3 w4 := hst4.kept.mono (fun i hi => HS.out.low i hi)
      have hSx : w4.cell? ⟨b, o + j * 6, none⟩ = some (.int .i64 (a j).d) ∧ w4.cell? ⟨b, o + j * 6 + 1, none⟩ = some (.int .u16 (a j).o) ∧ w4.cell? ⟨b, o + j * 6 + 2, none⟩ = some (.int .u32 ((a j).n : Int)) ∧ w4.cell? ⟨b, o + j * 6 + 3, none⟩ = some (.int .u8 ((a j).t.toNat : Int)) ∧ w4.cell? ⟨b, o + j * 6 + 4, none⟩ = some (.slice (a j).A (a j).mi (a j).c) ∧ w4.cell? ⟨b, o + j * 6 + 5, none⟩ = some (.slice (a j).B (a j).k (a j).e) := by
        have hcw := (hact j h1).cells
        have hK4 := HKD.out.trans hKB
        have hg : ∀ i, i < 6 → w4.cell? ⟨b, o + j * 6 + i, none⟩ = some ((a j).cell i) := fun i hi => by
          have hb5 : b < w.heap.size := World.block_lt_of_cell? _ _ (hcw i hi)
          exact (hK4.cell (p := ⟨b, o + j * 6 + i, none⟩) hb5 (fun e => by have e' : w.heap.size ≤ b := e; omega)).trans (hcw i hi)
        exact ⟨hg 0 (by omega), hg 1 (by omega), hg 2 (by omega), hg 3 (by omega), hg 4 (by omega), hg 5 (by omega)⟩
      have hS4c := And.intro (hb4.cell 0) (And.intro (hb4.cell 1) hSx)
      refine hK6.out _ _ (fun _ => hS4c) ?_
      clear hK6 K
      refine wpAnyR_take 7 (v := ?_) rfl (by kernel_rfl) (by kernel_rfl) (by kernel_rfl) (by kernel_rfl) (fun _ _ _ h => h) hS4c ⟨by rfl, ?_⟩ ?_
      rotate_left; (intro w hSw; (try dsimp only at hSw); first | (go_simp; done) | (go_simp; with_reducible rfl))
      simp only [List.getElem_toArray, List.getElem_cons_zero, List.getElem_cons_succ, Act.put, List.setIfInBounds_toArray, List.set_cons_zero, List.set_cons_succ]
      refine wpAnyR_late 8 (v := ?_) rfl (by kernel_rfl) (by kernel_rfl) (by kernel_rfl) (by kernel_rfl) (fun _ _ _ h => h) (fun _ => hS4c) ⟨by rfl, ?_⟩ ?_
      rotate_left; (intro w; first | (go_simp; done) | (go_simp; with_reducible rfl))
      simp only [List.getElem_toArray, List.getElem_cons_zero, List.getElem_cons_succ, Act.put, List.setIfInBounds_toArray, List.set_cons_zero, List.set_cons_succ]
      refine wpAnyR_late 9 (v := ?_) rfl (by kernel_rfl) (by kernel_rfl) (by kernel_rfl) (by kernel_rfl) (fun _ _ _ h => h) (fun _ => hS4c) ⟨by rfl, ?_⟩ ?_
      rotate_left; (intro w; first | (go_simp; done) | (go_simp; with_reducible rfl))
      simp only [List.getElem_toArray, List.getElem_cons_zero, List.getElem_cons_succ, Act.put, List.setIfInBounds_toArray, List.set_cons_zero, List.set_cons_succ]
      have z0 := hb4.frozen 0
      have z1 := hb4.frozen 1
      have y0 := hb4.cell 0
      have y1 := hb4.cell 1
      refine wpAnyR_one 10 rfl (by kernel_rfl) (fun K hK10 => ?_)
      go_simp
      refine hK10.out _ _ (fun h => absurd h (by decide)) ?_
      clear hK10 K
      refine wpAnyR_late 11 (v := ?_) rfl (by kernel_rfl) (by kernel_rfl) (by kernel_rfl) (by kernel_rfl) (fun _ _ _ h => h) (fun h => absurd h (by decide)) ⟨by rfl, ?_⟩ ?_
      rotate_left; (intro w; first | (go_simp; done) | (go_simp; with_reducible rfl))
      simp only [List.getElem_toArray, List.getElem_cons_zero, List.getElem_cons_succ, Act.put, List.setIfInBounds_toArray, List.set_cons_zero, List.set_cons_succ]
      refine wpAnyR_done (by kernel_rfl) ?_ _
      have hk5 := set2 w4 mb (.slice V2 (s.doAct (a j)).n cv2) (.slice Fa2 (s.doAct (a j)).k cf2)
      have hb5 : Blk ((w4.setCell ⟨mb, 0, none⟩ (.slice V2 (s.doAct (a j)).n cv2)).setCell ⟨mb, 1, none⟩ (.slice Fa2 (s.doAct (a j)).k cf2)) mb 45 #[.slice V2 (s.doAct (a j)).n cv2, .slice Fa2 (s.doAct (a j)).k cf2] := (hb4.set_ 0 _).set_ 1 _
      have hbw : w.heap.size ≤ mb := by omega
      have hS5 := hS4.write (Z := S1 mb) hk5 (fun i hi => ⟨hi, fun e => hXm4 (by have e' : i = mb := hi; rw [← e']; exact e)⟩) (fun i hi => hi)
      have hM5 := (hM4.away hb4 two_slices).step (X' := X') ⟨hk5.mono (fun i hi => .inr hi), fun i hi => .inl (.inl hi)⟩
      have hK5 : Kept (SB w.heap.size) w _ := (HKD.out.trans hKB).trans (hk5.mono (fun i hi => by have e : i = mb := hi; show w.heap.size ≤ i; omega))
      obtain ⟨hW5, hn5, hk5'⟩ := St.act_wf HW.out (a j).d (a j).o (a j).t (a j).mi (a j).v (a j).k (a j).u (by omega) (by omega)
      generalize (w4.setCell ⟨mb, 0, none⟩ (.slice V2 (s.doAct (a j)).n cv2)).setCell ⟨mb, 1, none⟩ (.slice Fa2 (s.doAct (a j)).k cf2) = w5 at *
      have HS5 := Lib.hid (show StkIs w5 sb w.heap.size X' (S1 mb) (s.doAct (a j)) from hS5)
      have HM5 := Lib.hid (show ModIs X' w5 (.agg #[.slice V2 (s.doAct (a j)).n cv2, .slice Fa2 (s.doAct (a j)).k cf2]) (s.doAct (a j)) from hM5)
      have HK5 := Lib.hid hK5
      have HB5 := Lib.hid hb5
      have HN5 := Lib.hid (show (s.doAct (a j)).Wf ∧ (s.doAct (a j)).n ≤ (j + 1) * 1048576 ∧ (s.doAct (a j)).k ≤ j + 1 from ⟨hW5, by show (s.act _ _ _ _ _ _ _).n ≤ _; omega, by show (s.act _ _ _ _ _ _ _).k ≤ _; omega⟩)
      have HX5 := Lib.hid hXm4
      generalize s.doAct (a j) = s' at *
      clear hS1 hS4c hSx hb4 hKB hS4 hst4 hM4 hk5 hb5 hS5 hM5 hK5 hW5 hn5 hk5' z0 z1 y0 y1 hXm hXm4 HC HBD HKD hbb
      have hdd := (Kept.refl S0 w5).drew
      have hVb := (hdd.blk HB5.out (fun x => x))
      have v0 := hVb.cell 0
      have v1 := hVb.cell 1
      go_wp2_with fail
      refine wp_region_R (fun w' => w'.cell? ⟨mb, 0, none⟩ = some (.slice V2 s'.n cv2) ∧ w'.cell? ⟨mb, 1, none⟩ = some (.slice Fa2 s'.k cf2)) [] (by kernel_rfl) ?_
      have hSt6 := HS5.out.kept0 hdd
      have hMo6 := HM5.out.kept0 hdd
      have hKD := HK5.out.then0 hdd
      have hBB := hVb
      generalize w5.drew = w6 at *
      have hS6 : w6.cell? ⟨mb, 0, none⟩ = some (.slice V2 s'.n cv2) ∧ w6.cell? ⟨mb, 1, none⟩ = some (.slice Fa2 s'.k cf2) := ⟨v0, v1⟩
      clear hdd hVb v0 v1
      refine wpAnyR_take 0 (v := ?_) rfl (by kernel_rfl) (by kernel_rfl) (by kernel_rfl) (by kernel_rfl) (fun _ _ _ h => h) hS6 ⟨by rfl, ?_⟩ ?_
      rotate_left; (intro w hSw; (try dsimp only at hSw); first | (go_simp; done) | (go_simp; with_reducible rfl))
      simp only [List.getElem_toArray, List.getElem_cons_zero, Act.put, List.setIfInBounds_toArray, List.set_cons_zero, List.set_cons_succ]
      refine wpAnyR_take 1 (v := ?_) rfl (by kernel_rfl) (by kernel_rfl) (by kernel_rfl) (by kernel_rfl) (fun _ _ _ h => h) hS6 ⟨by rfl, ?_⟩ ?_
      rotate_left; (intro w hSw; (try dsimp only at hSw); first | (go_simp; done) | (go_simp; with_reducible rfl))
      simp only [List.getElem_toArray, List.getElem_cons_zero, List.getElem_cons_succ, Act.put, List.setIfInBounds_toArray, List.set_cons_zero, List.set_cons_succ]
      refine wpAnyR_take 2 (v := ?_) rfl (by kernel_rfl) (by kernel_rfl) (by kernel_rfl) (by kernel_rfl) (fun _ _ _ h => h) hS6 ⟨by rfl, ?_⟩ ?_
      rotate_left; (intro w hSw; (try dsimp only at hSw); first | (go_simp; done) | (go_simp; with_reducible rfl))
      simp only [List.getElem_toArray, List.getElem_cons_zero, List.getElem_cons_succ, Act.put, List.setIfInBounds_toArray, List.set_cons_zero, List.set_cons_succ]
      refine wpAnyR_take 3 (v := ?_) rfl (by kernel_rfl) (by kernel_rfl) (by kernel_rfl) (by kernel_rfl) (fun _ _ _ h => h) hS6 ⟨by rfl, ?_⟩ ?_
      rotate_left; (intro w hSw; (try dsimp only at hSw); first | (go_simp; done) | (go_simp; with_reducible rfl))
      simp only [List.getElem_toArray, List.getElem_cons_zero, List.getElem_cons_succ, Act.put, List.setIfInBounds_toArray, List.set_cons_zero, List.set_cons_succ]
      refine wpAnyR_take 4 (v := ?_) rfl (by kernel_rfl) (by kernel_rfl) (by kernel_rfl) (by kernel_rfl) (fun _ _ _ h => h) hS6 ⟨by rfl, ?_⟩ ?_
      rotate_left; (intro w hSw; (try dsimp only at hSw); first | (go_simp; done) | (go_simp; with_reducible rfl))
      simp only [List.getElem_toArray, List.getElem_cons_zero, List.getElem_cons_succ, Act.put, List.setIfInBounds_toArray, List.set_cons_zero, List.set_cons_succ]
      refine wpAnyR_take 6 (v := ?_) rfl (by kernel_rfl) (by kernel_rfl) (by kernel_rfl) (by kernel_rfl) (fun _ _ _ h => h) hS6 ⟨by rfl, ?_⟩ ?_
      rotate_left; (intro w hSw; (try dsimp only at hSw); first | (go_simp; done) | (go_simp; with_reducible rfl))
      simp only [List.getElem_toArray, List.getElem_cons_zero, List.getElem_cons_succ, Act.put, List.setIfInBounds_toArray, List.set_cons_zero, List.set_cons_succ]
      refine wpAnyR_one 5 rfl (by kernel_rfl) (fun K hK5' => ?_)
      go_simp
      go_at_call 15
      refine (values_is hSt6 HN5.out.1.n).mono ?_
      rintro e w7 ⟨x, rfl, hx, hk7⟩
      obtain ⟨xA, xc, rfl, hxc⟩ := came_own (S := S0) hx (fun _ _ x => x) HN5.out.1.n
      have hB7 := hk7.blk hBB (fun x => x)
      have hS7 : w7.cell? ⟨mb, 0, none⟩ = some (.slice V2 s'.n cv2) ∧ w7.cell? ⟨mb, 1, none⟩ = some (.slice Fa2 s'.k cf2) := ⟨hB7.cell 0, hB7.cell 1⟩
      refine hK5'.out _ _ (fun _ => hS7) ?_
      clear hK5' K
      refine wpAnyR_one 7 rfl (by kernel_rfl) (fun K hK7 => ?_)
      go_simp
      go_at_call 22
      refine (frames_is (hSt6.kept0 hk7) HN5.out.1).mono ?_
      rintro e w8 ⟨y, G, rfl, hy, hN, hk8⟩
      have hB8 := hk8.blk hB7 (fun x => x)
      have hS8 : w8.cell? ⟨mb, 0, none⟩ = some (.slice V2 s'.n cv2) ∧ w8.cell? ⟨mb, 1, none⟩ = some (.slice Fa2 s'.k cf2) := ⟨hB8.cell 0, hB8.cell 1⟩
      refine hK7.out _ _ (fun _ => hS8) ?_
      clear hK7 K
      refine wpAnyR_one 8 rfl (by kernel_rfl) (fun K hK8 => ?_)
      go_simp
      go_at_call 21
      refine (same_is xA xc ((hMo6.kept0 hk7).kept0 hk8) (hxc.kept hk8) (frL_new hy hN) HN5.out.1.k).mono ?_
      rintro e w9 ⟨rfl, hk9⟩
      have hB9 := hk9.blk hB8 (fun x => x)
      have hS9 : w9.cell? ⟨mb, 0, none⟩ = some (.slice V2 s'.n cv2) ∧ w9.cell? ⟨mb, 1, none⟩ = some (.slice Fa2 s'.k cf2) := ⟨hB9.cell 0, hB9.cell 1⟩
      refine hK8.out _ _ (fun _ => hS9) ?_
      clear hK8 K
      refine wpAnyR_take 9 (v := ?_) rfl (by kernel_rfl) (by kernel_rfl) (by kernel_rfl) (by kernel_rfl) (fun _ _ _ h => h) hS9 ⟨by rfl, ?_⟩ ?_
      rotate_left; (intro w hSw; (try dsimp only at hSw); first | (go_simp; done) | (go_simp; with_reducible rfl))
      simp only [List.getElem_toArray, List.getElem_cons_zero, List.getElem_cons_succ, Act.put, List.setIfInBounds_toArray, List.set_cons_zero, List.set_cons_succ]
      refine wpAnyR_take 10 (v := ?_) rfl (by kernel_rfl) (by kernel_rfl) (by kernel_rfl) (by kernel_rfl) (fun _ _ _ h => h) hS9 ⟨by rfl, ?_⟩ ?_
      rotate_left; (intro w hSw; (try dsimp only at hSw); first | (go_simp; done) | (go_simp; with_reducible rfl))
      simp only [List.getElem_toArray, List.getElem_cons_zero, List.getElem_cons_succ, Act.put, List.setIfInBounds_toArray, List.set_cons_zero, List.set_cons_succ]
      refine wpAnyR_done (by kernel_rfl) ?_ _
      have hk69 := (hk7.then0 hk8).then0 hk9
      have HS9 := Lib.hid (hSt6.kept0 hk69)
      have HM9 := Lib.hid (hMo6.kept0 hk69)
      have HK9 := Lib.hid (hKD.then0 hk69)
      have HB9 := Lib.hid hB9
      clear hSt6 hMo6 hKD hBB hS6 hS7 hS8 hS9 hB7 hB8 hB9 hk7 hk8 hk9 hk69 hx hxc hy hN
      go_wp2_with fail
      go_roundw
      case rel => exact ⟨j + 1, s', X', V2, Fa2, cv2, cf2, by go_num, by omega, by omega, HS9.out, HN5.out.1, HM9.out, HB9.out, HX5.out, HN5.out.2.1, HN5.out.2.2, HK9.out⟩
      case measure => simp [intOf]; omega
    · have hcase : (l ≤ j) ∨ (j < l ∧ j = 80) := by omega
      clear hS hM hB hK hW hX hlt
      rcases hcase with h | ⟨h1, rfl⟩
      · have g1 : (l : Int) ≤ (j : Int) := by omega
        go_wp2_with fail
        refine (lives_any _).mono ?_
        rintro e w9 ⟨rfl, hk9⟩
        go_wp2_with fail
        go_ret
        exact ⟨rfl, Kept.toS0 (HK.out.then0 hk9)⟩
      · have g1 : (((80 : Nat) : Int)) < (l : Int) := by omega
        go_wp2_with fail
        refine (lives_any _).mono ?_
        rintro e w9 ⟨rfl, hk9⟩
        go_wp2_with fail
        go_ret
        exact ⟨rfl, Kept.toS0 (HK.out.then0 hk9)⟩
end Go.Proofs.Ytpbaojjcbpfdaaa
