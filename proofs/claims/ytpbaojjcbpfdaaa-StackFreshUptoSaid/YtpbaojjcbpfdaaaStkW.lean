/- The document's checker: TakeAll in terms of the plain model. No condition. -/
import Derived.Test.YtpbaojjcbpfdaaaStkX
import Derived.Test.YtpbaojjcbpfdaaaHeldR
namespace Go.Proofs.Ytpbaojjcbpfdaaa
open Go.RowKit

/-- One step of taking a list. -/
theorem pops_of (s : St) (hk : s.k ≠ 0) (u : Nat → UInt8) (r : Nat) : pops s.v s.top.h s.top.dead u (r + 1) s.n = if s.ofE (u r) = 0 then pops s.v s.top.h s.top.dead u r (s.ofN (u r)) else none := by
  have hT : s.takeT = if s.n = s.top.h then 0 else s.v (s.n - 1) := by unfold St.takeT; rw [if_neg hk]
  have hN : s.takeN = if s.n = s.top.h then s.n else s.n - 1 := by unfold St.takeN; rw [if_neg hk]
  have hE : s.takeE = if s.n = s.top.h then (if s.top.dead = true then 0 else 5) else 0 := by unfold St.takeE; rw [if_neg hk]
  rw [pops]
  by_cases hh : s.n = s.top.h
  · rw [if_pos hh] at hT hN hE ⊢
    by_cases hd : s.top.dead = true
    · rw [if_pos hd] at hE ⊢
      obtain ⟨e1, e2, e3⟩ := s.of_ok (u r) hE (.inr (.inl hT))
      rw [e1, if_pos rfl, e3, hN]
    · rw [if_neg hd] at hE ⊢
      obtain ⟨e1, e2, e3⟩ := s.of_ref (u r) hE
      rw [e1, if_neg (by decide)]
  · rw [if_neg hh] at hT hN hE ⊢
    by_cases hc : s.v (s.n - 1) = u r ∨ s.v (s.n - 1) = 0 ∨ u r = 0
    · obtain ⟨e1, e2, e3⟩ := s.of_ok (u r) hE (by unfold St.fits; rw [hT]; exact hc)
      rw [if_pos hc, e1, if_pos rfl, e3, hN]
    · obtain ⟨e1, e2, e3⟩ := s.of_bad (u r) hE (by unfold St.fits; rw [hT]; exact hc)
      rw [if_neg hc, e1, if_neg (by decide)]

theorem St.ofE_or (s : St) (t : UInt8) : s.ofE t = 0 ∨ s.ofE t = 5 := by
  unfold St.ofE
  repeat (first | exact .inl rfl | exact .inr rfl | split)

section
variable {X : Nat → Prop} {w w' : World} {s : St} {mv : Value}

set_option maxHeartbeats 6400000 in
theorem mtakeAll_some (A : Option Addr) (m c : Nat) (u : Nat → UInt8) (h : ModIs X w mv s) (hw : s.Wf) (hX : ∀ i, X i → i < w.heap.size) (hk : s.k ≠ 0) (hA : Came S0 w A m c u) : Calls Try.prog 32 #[mv, .slice A m c] w fun e w' =>
    ∃ mv', e = .returned (.tuple #[mv', .int .i64 (s.allE u m)]) ∧ ModIs X w' mv' (s.withN (s.allN u m)) ∧ Kept S0 w w' := by
  obtain ⟨V, cv, Fa, cf, G, rfl, hat⟩ := h.ex
  have b1 : ((s.k : Int) == 0) = false := beq_eq_false_iff_ne.2 (by omega)
  have hml := hA.le
  have u1 : IntKind.i64.wrap ((m : Int) - 1) = (m : Int) - 1 := IntWalk.i64_in _ (by omega)
  have hpop : s.pop u m = pops s.v s.top.h s.top.dead u m s.n := by unfold St.pop; rw [if_neg hk]
  have hkd : Kept S0 w (((w.alloc (.cells #[.slice V s.n cv, .slice Fa s.k cf] 45)).alloc (.cells #[.slice none 0 0, .slice none 0 0] 45)).alloc (.cells #[.slice V s.n cv, .slice Fa s.k cf] 45)) := (((Kept.refl S0 w).alloc _).alloc _).alloc _
  have hbd : Blk (((w.alloc (.cells #[.slice V s.n cv, .slice Fa s.k cf] 45)).alloc (.cells #[.slice none 0 0, .slice none 0 0] 45)).alloc (.cells #[.slice V s.n cv, .slice Fa s.k cf] 45)) w.heap.size 45 #[.slice V s.n cv, .slice Fa s.k cf] := ((Blk.new w _ _).alloc _).alloc _
  have hrd : Blk (((w.alloc (.cells #[.slice V s.n cv, .slice Fa s.k cf] 45)).alloc (.cells #[.slice none 0 0, .slice none 0 0] 45)).alloc (.cells #[.slice V s.n cv, .slice Fa s.k cf] 45)) (w.heap.size + 1) 45 #[.slice none 0 0, .slice none 0 0] := (Blk.new1 w _ _ _).alloc _
  have hod : Blk (((w.alloc (.cells #[.slice V s.n cv, .slice Fa s.k cf] 45)).alloc (.cells #[.slice none 0 0, .slice none 0 0] 45)).alloc (.cells #[.slice V s.n cv, .slice Fa s.k cf] 45)) (w.heap.size + 1 + 1) 45 #[.slice V s.n cv, .slice Fa s.k cf] := by
    have h := Blk.new ((w.alloc (.cells #[.slice V s.n cv, .slice Fa s.k cf] 45)).alloc (.cells #[.slice none 0 0, .slice none 0 0] 45)) 45 #[.slice V s.n cv, .slice Fa s.k cf]
    have e : ((w.alloc (.cells #[.slice V s.n cv, .slice Fa s.k cf] 45)).alloc (.cells #[.slice none 0 0, .slice none 0 0] 45)).heap.size = w.heap.size + 1 + 1 := by simp
    rwa [e] at h
  have hsz : (((w.alloc (.cells #[.slice V s.n cv, .slice Fa s.k cf] 45)).alloc (.cells #[.slice none 0 0, .slice none 0 0] 45)).alloc (.cells #[.slice V s.n cv, .slice Fa s.k cf] 45)).heap.size = w.heap.size + 3 := by simp
  have hmd := h.step (loc_in 3 hkd)
  have HH := Lib.hid h
  have HA := Lib.hid hA
  clear h hat hA
  go_enter Try.func32, Try.ntmps32
  go_wp2_with fail
  generalize ((w.alloc (.cells #[.slice V s.n cv, .slice Fa s.k cf] 45)).alloc (.cells #[.slice none 0 0, .slice none 0 0] 45)).alloc (.cells #[.slice V s.n cv, .slice Fa s.k cf] 45) = wd at *
  go_loopw [7] (fun i wr => ∃ (r : Nat) (z : Int) (p : Nat) (V' Fa' : Option Addr) (cv' cf' : Nat), i = .int .i64 z ∧ z = (r : Int) - 1 ∧ r ≤ m ∧ (s.withN p).Wf ∧ pops s.v s.top.h s.top.dead u r p = pops s.v s.top.h s.top.dead u m s.n ∧ Blk wr w.heap.size 45 #[.slice V s.n cv, .slice Fa s.k cf] ∧ Blk wr (w.heap.size + 1) 45 #[.slice none 0 0, .slice none 0 0] ∧ Blk wr (w.heap.size + 1 + 1) 45 #[.slice V' p cv', .slice Fa' s.k cf'] ∧ ModIs (XL X w.heap.size 3) wr (.agg #[.slice V' p cv', .slice Fa' s.k cf']) (s.withN p) ∧ Kept S0 w wr ∧ wd.heap.size ≤ wr.heap.size) (fun i _ => (intOf i + 1).toNat)
  case atStart => exact ⟨m, _, s.n, V, Fa, cv, cf, rfl, rfl, Nat.le_refl _, hw, rfl, hbd, hrd, hod, hmd, hkd, Nat.le_refl _⟩
  case round =>
    obtain ⟨r, z, p, V1, Fa1, cv1, cf1, rfl, hz, hr, hwp, hpo, hb, hrs, ho, hm, hkr, hszr⟩ := hrel
    clear hbd hrd hod hmd hkd u1
    have HW := Lib.hid hwp
    have HPO := Lib.hid hpo
    have HB := Lib.hid hb
    have HRS := Lib.hid hrs
    have HO := Lib.hid ho
    have HM := Lib.hid hm
    have HKR := Lib.hid hkr
    rcases Nat.eq_zero_or_pos r with hr0 | hr0
    · subst hr0
      obtain rfl : z = -1 := by omega
      have e1 : s.allE u m = 0 := by unfold St.allE; rw [hpop, ← hpo]; rfl
      have e2 : s.allN u m = p := by unfold St.allN; rw [hpop, ← hpo]; rfl
      have o0 := ho.cell 0
      have o1 := ho.cell 1
      have r0 := hrs.cell 0
      have r1 := hrs.cell 1
      have z0 := hrs.frozen 0
      have z1 := hrs.frozen 1
      have HE := Lib.hid (And.intro e1 e2)
      clear hwp hpo hb hrs ho hm hkr e1 e2 hz
      go_wp2_with fail
      obtain ⟨f1, f2, f3⟩ := fin2 (x := .slice V1 p cv1) (y := .slice Fa1 s.k cf1) HKR.out HRS.out (by omega)
      have hset := loc_out (X := X) (b := w.heap.size) (n := 3) (set2 wr (w.heap.size + 1) (.slice V1 p cv1) (.slice Fa1 s.k cf1)) (fun i hi => by have e : i = w.heap.size + 1 := hi; omega)
      exact bodyPost_ret (v := .tuple #[.agg #[.slice V1 p cv1, .slice Fa1 s.k cf1], .int .i64 0]) (by simp [results, Try.results32, go_sem, f2, f3]) rfl ⟨_, by rw [HE.out.1], by rw [HE.out.2]; exact HM.out.step hset, f1⟩
    · obtain ⟨t, rfl⟩ : ∃ t, r = t + 1 := ⟨r - 1, by omega⟩
      obtain rfl : z = (t : Int) := by omega
      have htm : t < m := by omega
      have hsi : (t : Int) < (m : Int) := by omega
      have hs0 : (0 : Int) ≤ (t : Int) := by omega
      have uz : IntKind.i64.wrap ((t : Int) - 1) = (t : Int) - 1 := IntWalk.i64_in _ (by omega)
      obtain ⟨b, o, hAe, _, hc⟩ := HA.out.sl (by omega)
      subst hAe
      have hcs := hc t htm
      have d3 : wr.cell? ⟨b, o + t, none⟩ = some (.int .u8 ((u t).toNat : Int)) := (hkr.cell (p := ⟨b, o + t, none⟩) (World.block_lt_of_cell? _ _ hcs) (fun x => x)).trans hcs
      clear hwp hpo hb hrs ho hm hkr hz hc hcs
      go_wp2_with fail
      have hdd := (Kept.refl S0 wr).drew
      have hod := hdd.blk HO.out (fun x => x)
      have hmd := HM.out.kept0 hdd
      have d3d := (hdd.cell (p := ⟨b, o + t, none⟩) (World.block_lt_of_cell? _ _ d3) (fun x => x)).trans d3
      have hkd := HKR.out.then0 hdd
      have hbd := hdd.blk HB.out (fun x => x)
      have hrd := hdd.blk HRS.out (fun x => x)
      have hXL : ∀ i, XL X w.heap.size 3 i → i < wr.drew.heap.size := fun i hi => by
        show i < wr.heap.size
        rcases hi with e | e
        · have := hX i e; omega
        · omega
      have hszd : wd.heap.size ≤ wr.drew.heap.size := hszr
      refine wp_region_R (fun w' => w'.cell? ⟨w.heap.size + 1 + 1, 0, none⟩ = some (.slice V1 p cv1) ∧ w'.cell? ⟨w.heap.size + 1 + 1, 1, none⟩ = some (.slice Fa1 s.k cf1) ∧ w'.cell? ⟨b, o + t, none⟩ = some (.int .u8 ((u t).toNat : Int))) [11] (by kernel_rfl) ?_
      generalize wr.drew = w1 at *
      have hS : w1.cell? ⟨w.heap.size + 1 + 1, 0, none⟩ = some (.slice V1 p cv1) ∧ w1.cell? ⟨w.heap.size + 1 + 1, 1, none⟩ = some (.slice Fa1 s.k cf1) ∧ w1.cell? ⟨b, o + t, none⟩ = some (.int .u8 ((u t).toNat : Int)) := ⟨hod.cell 0, hod.cell 1, d3d⟩
      clear d3 hdd HB HRS HO HM HKR
      refine wpAnyR_take 0 (v := ?_) rfl (by kernel_rfl) (by kernel_rfl) (by kernel_rfl) (by kernel_rfl) (fun _ _ _ h => h) hS ⟨by rfl, ?_⟩ ?_
      rotate_left; (intro w hSw; (try dsimp only at hSw); first | (go_simp; done) | (go_simp; with_reducible rfl))
      simp only [List.getElem_toArray, List.getElem_cons_zero, Act.put, List.setIfInBounds_toArray, List.set_cons_zero, List.set_cons_succ]
      refine wpAnyR_take 1 (v := ?_) rfl (by kernel_rfl) (by kernel_rfl) (by kernel_rfl) (by kernel_rfl) (fun _ _ _ h => h) hS ⟨by rfl, ?_⟩ ?_
      rotate_left; (intro w hSw; (try dsimp only at hSw); first | (go_simp; done) | (go_simp; with_reducible rfl))
      simp only [List.getElem_toArray, List.getElem_cons_zero, List.getElem_cons_succ, Act.put, List.setIfInBounds_toArray, List.set_cons_zero, List.set_cons_succ]
      refine wpAnyR_take 2 (v := ?_) rfl (by kernel_rfl) (by kernel_rfl) (by kernel_rfl) (by kernel_rfl) (fun _ _ _ h => h) hS ⟨by rfl, ?_⟩ ?_
      rotate_left; (intro w hSw; (try dsimp only at hSw); first | (go_simp; done) | (go_simp; with_reducible rfl))
      simp only [List.getElem_toArray, List.getElem_cons_zero, List.getElem_cons_succ, Act.put, List.setIfInBounds_toArray, List.set_cons_zero, List.set_cons_succ]
      refine wpAnyR_take 3 (v := ?_) rfl (by kernel_rfl) (by kernel_rfl) (by kernel_rfl) (by kernel_rfl) (fun _ _ _ h => h) hS ⟨by rfl, ?_⟩ ?_
      rotate_left; (intro w hSw; (try dsimp only at hSw); first | (go_simp; done) | (go_simp; with_reducible rfl))
      simp only [List.getElem_toArray, List.getElem_cons_zero, List.getElem_cons_succ, Act.put, List.setIfInBounds_toArray, List.set_cons_zero, List.set_cons_succ]
      refine wpAnyR_take 4 (v := ?_) rfl (by kernel_rfl) (by kernel_rfl) (by kernel_rfl) (by kernel_rfl) (fun _ _ _ h => h) hS ⟨by rfl, ?_⟩ ?_
      rotate_left; (intro w hSw; (try dsimp only at hSw); first | (go_simp; done) | (go_simp; with_reducible rfl))
      simp only [List.getElem_toArray, List.getElem_cons_zero, List.getElem_cons_succ, Act.put, List.setIfInBounds_toArray, List.set_cons_zero, List.set_cons_succ]
      refine wpAnyR_two 5 10 rfl rfl (by kernel_rfl) (fun K hK5 => ?_) (fun K hK10 => ?_)
      · go_simp
        go_at_call 31
        refine (mtakeOf_is (u t) hmd HW.out hXL).mono ?_
        rintro e w2 ⟨mv2, rfl, hm2, hk2⟩
        obtain ⟨V2, cv2, Fa2, cf2, G2, hmv0, _⟩ := hm2.ex
        have hmv : mv2 = .agg #[.slice V2 ((s.withN p).ofN (u t)) cv2, .slice Fa2 s.k cf2] := hmv0
        clear hmv0
        subst hmv
        have hS2 : w2.cell? ⟨w.heap.size + 1 + 1, 0, none⟩ = some (.slice V1 p cv1) ∧ w2.cell? ⟨w.heap.size + 1 + 1, 1, none⟩ = some (.slice Fa1 s.k cf1) ∧ w2.cell? ⟨b, o + t, none⟩ = some (.int .u8 ((u t).toNat : Int)) := ⟨(hk2.blk hod (fun x => x)).cell 0, (hk2.blk hod (fun x => x)).cell 1, (hk2.cell (p := ⟨b, o + t, none⟩) (World.block_lt_of_cell? _ _ d3d) (fun x => x)).trans d3d⟩
        refine hK5.out _ _ (fun _ => hS2) ?_
        clear hK5 K
        refine wpAnyR_take 6 (v := ?_) rfl (by kernel_rfl) (by kernel_rfl) (by kernel_rfl) (by kernel_rfl) (fun _ _ _ h => h) hS2 ⟨by rfl, ?_⟩ ?_
        rotate_left; (intro w hSw; (try dsimp only at hSw); first | (go_simp; done) | (go_simp; with_reducible rfl))
        simp only [List.getElem_toArray, List.getElem_cons_zero, List.getElem_cons_succ, Act.put, List.setIfInBounds_toArray, List.set_cons_zero, List.set_cons_succ]
        refine wpAnyR_take 7 (v := ?_) rfl (by kernel_rfl) (by kernel_rfl) (by kernel_rfl) (by kernel_rfl) (fun _ _ _ h => h) hS2 ⟨by rfl, ?_⟩ ?_
        rotate_left; (intro w hSw; (try dsimp only at hSw); first | (go_simp; done) | (go_simp; with_reducible rfl))
        simp only [List.getElem_toArray, List.getElem_cons_zero, List.getElem_cons_succ, Act.put, List.setIfInBounds_toArray, List.set_cons_zero, List.set_cons_succ]
        refine wpAnyR_late 8 (v := ?_) rfl (by kernel_rfl) (by kernel_rfl) (by kernel_rfl) (by kernel_rfl) (fun _ _ _ h => h) (fun _ => hS2) ⟨by rfl, ?_⟩ ?_
        rotate_left; (intro w; first | (go_simp; done) | (go_simp; with_reducible rfl))
        simp only [List.getElem_toArray, List.getElem_cons_zero, List.getElem_cons_succ, Act.put, List.setIfInBounds_toArray, List.set_cons_zero, List.set_cons_succ]
        refine wpAnyR_late 9 (v := ?_) rfl (by kernel_rfl) (by kernel_rfl) (by kernel_rfl) (by kernel_rfl) (fun _ _ _ h => h) (fun _ => hS2) ⟨by rfl, ?_⟩ ?_
        rotate_left; (intro w; first | (go_simp; done) | (go_simp; with_reducible rfl))
        simp only [List.getElem_toArray, List.getElem_cons_zero, List.getElem_cons_succ, Act.put, List.setIfInBounds_toArray, List.set_cons_zero, List.set_cons_succ]
        refine wpAnyR_one 10 rfl (by kernel_rfl) (fun K hK10 => ?_)
        go_simp
        have hka := (Kept.refl S0 w2).alloc (.cells #[.slice none 0 0, .slice none 0 0] 45)
        refine hK10.out _ _ (fun _ => ⟨(hka.blk (hk2.blk hod (fun x => x)) (fun x => x)).cell 0, (hka.blk (hk2.blk hod (fun x => x)) (fun x => x)).cell 1, (hka.cell (p := ⟨b, o + t, none⟩) (World.block_lt_of_cell? _ _ hS2.2.2) (fun x => x)).trans hS2.2.2⟩) ?_
        clear hK10 K
        have hnb := Blk.new w2 45 #[.slice none 0 0, .slice none 0 0]
        have hm3 : ModIs (fun i => XL X w.heap.size 3 i ∨ i = w2.heap.size) (w2.alloc (.cells #[.slice none 0 0, .slice none 0 0] 45)) (.agg #[.slice V2 ((s.withN p).ofN (u t)) cv2, .slice Fa2 s.k cf2]) ((s.withN p).withN ((s.withN p).ofN (u t))) := hm2.step ⟨hka.of0 _, fun i hi => hi.elim .inl (fun e => .inr (by omega))⟩
        have hk3 := hk2.then0 hka
        have hnl : w1.heap.size ≤ w2.heap.size := hk2.size
        generalize hnbe : w2.heap.size = nb at *
        generalize w2.alloc (.cells #[.slice none 0 0, .slice none 0 0] 45) = w3 at *
        clear hka hk2 hm2 hS2 hmd
        have q0 := hnb.cell 0
        have q1 := hnb.cell 1
        have y0 := hnb.frozen 0
        have y1 := hnb.frozen 1
        refine wpAnyR_one 11 rfl (by kernel_rfl) (fun K hK11 => ?_)
        go_simp
        refine hK11.out _ _ (fun h => absurd h (by decide)) ?_
        clear hK11 K
        refine wpAnyR_late 12 (v := ?_) rfl (by kernel_rfl) (by kernel_rfl) (by kernel_rfl) (by kernel_rfl) (fun _ _ _ h => h) (fun h => absurd h (by decide)) ⟨by rfl, ?_⟩ ?_
        rotate_left; (intro w; first | (go_simp; done) | (go_simp; with_reducible rfl))
        simp only [List.getElem_toArray, List.getElem_cons_zero, List.getElem_cons_succ, Act.put, List.setIfInBounds_toArray, List.set_cons_zero, List.set_cons_succ]
        refine wpAnyR_late 13 (v := ?_) rfl (by kernel_rfl) (by kernel_rfl) (by kernel_rfl) (by kernel_rfl) (fun _ _ _ h => h) (fun h => absurd h (by decide)) ⟨by rfl, ?_⟩ ?_
        rotate_left; (intro w; first | (go_simp; done) | (go_simp; with_reducible rfl))
        simp only [List.getElem_toArray, List.getElem_cons_zero, List.getElem_cons_succ, Act.put, List.setIfInBounds_toArray, List.set_cons_zero, List.set_cons_succ]
        refine wpAnyR_done (by kernel_rfl) ?_ _
        have hk5 := set2 w3 nb (.slice V2 ((s.withN p).ofN (u t)) cv2) (.slice Fa2 s.k cf2)
        have hn5 : Blk ((w3.setCell ⟨nb, 0, none⟩ (.slice V2 ((s.withN p).ofN (u t)) cv2)).setCell ⟨nb, 1, none⟩ (.slice Fa2 s.k cf2)) nb 45 #[.slice V2 ((s.withN p).ofN (u t)) cv2, .slice Fa2 s.k cf2] := (hnb.set_ 0 _).set_ 1 _
        generalize (w3.setCell ⟨nb, 0, none⟩ (.slice V2 ((s.withN p).ofN (u t)) cv2)).setCell ⟨nb, 1, none⟩ (.slice Fa2 s.k cf2) = w5 at *
        have hw1 : wd.heap.size ≤ w1.heap.size := by omega
        have hnw : ∀ i, i < w.heap.size + 3 → ¬ S1 nb i := fun i hi e => by have e' : i = nb := e; omega
        have hm5 : ModIs (XL X w.heap.size 3) w5 (.agg #[.slice V2 ((s.withN p).ofN (u t)) cv2, .slice Fa2 s.k cf2]) ((s.withN p).withN ((s.withN p).ofN (u t))) := hm3.step ⟨hk5.mono (fun i hi => .inr hi), fun i hi => .inl (.inl hi)⟩
        have hK5 : Kept S0 w w5 := Kept.trans_ (S' := S1 nb) (hkd.then0 hk3) hk5 (fun i hi => .inr (by have e : i = nb := hi; omega))
        have hb5 := hk5.blk (hk3.blk hbd (fun x => x)) (hnw _ (by omega))
        have hr5 := hk5.blk (hk3.blk hrd (fun x => x)) (hnw _ (by omega))
        have ho5 := hk5.blk (hk3.blk hod (fun x => x)) (hnw _ (by omega))
        have hz5 : wd.heap.size ≤ w5.heap.size := Nat.le_trans hw1 (Nat.le_trans hk3.size hk5.size)
        have hstep := pops_of (s.withN p) hk u t
        have hstep : pops s.v s.top.h s.top.dead u (t + 1) p = if (s.withN p).ofE (u t) = 0 then pops s.v s.top.h s.top.dead u t ((s.withN p).ofN (u t)) else none := hstep
        rw [HPO.out] at hstep
        have HM5 := Lib.hid hm5
        have HK5 := Lib.hid hK5
        have HB5 := Lib.hid hb5
        have HR5 := Lib.hid hr5
        have HO5 := Lib.hid ho5
        rcases (s.withN p).ofE_or (u t) with hE | hE
        · rw [hE, if_pos rfl] at hstep
          have HST := Lib.hid hstep
          have n0 := hn5.cell 0
          have n1 := hn5.cell 1
          have x0 := ho5.cell 0
          have x1 := ho5.cell 1
          have z0 := ho5.frozen 0
          have z1 := ho5.frozen 1
          have b2 : ((0 : Int) != 0) = false := by decide
          clear hm5 hK5 hb5 hr5 ho5 hstep hn5 hk5 hnb hm3 hk3 hkd hbd hrd hod hS d3d q0 q1 y0 y1 hXL
          go_wp2_with fail
          go_roundw
          case rel =>
            have ho6 : Blk ((w5.setCell ⟨w.heap.size + 1 + 1, 0, none⟩ (.slice V2 ((s.withN p).ofN (u t)) cv2)).setCell ⟨w.heap.size + 1 + 1, 1, none⟩ (.slice Fa2 s.k cf2)) (w.heap.size + 1 + 1) 45 #[.slice V2 ((s.withN p).ofN (u t)) cv2, .slice Fa2 s.k cf2] := (HO5.out.set_ 0 _).set_ 1 _
            have hk6 := set2 w5 (w.heap.size + 1 + 1) (.slice V2 ((s.withN p).ofN (u t)) cv2) (.slice Fa2 s.k cf2)
            exact ⟨t, _, (s.withN p).ofN (u t), V2, Fa2, cv2, cf2, rfl, rfl, by omega, HW.out.takeOf (u t), HST.out.symm, hk6.blk HB5.out (fun e => by have e' : w.heap.size = w.heap.size + 1 + 1 := e; omega), hk6.blk HR5.out (fun e => by have e' : w.heap.size + 1 = w.heap.size + 1 + 1 := e; omega), ho6, HM5.out.step (.of hk6 (fun i hi => .inr (by have e : i = w.heap.size + 1 + 1 := hi; omega))), Kept.trans_ (S' := S1 (w.heap.size + 1 + 1)) HK5.out hk6 (fun i hi => .inr (by have e : i = w.heap.size + 1 + 1 := hi; omega)), Nat.le_trans hz5 hk6.size⟩
          case measure => simp [intOf]
        · rw [hE, if_neg (by decide)] at hstep
          have e1 : s.allE u m = 5 := by unfold St.allE; rw [hpop, hstep]; rfl
          have e2 : s.allN u m = s.n := by unfold St.allN; rw [hpop, hstep]; rfl
          have HE := Lib.hid (And.intro e1 e2)
          have n0 := hb5.cell 0
          have n1 := hb5.cell 1
          have x0 := hr5.cell 0
          have x1 := hr5.cell 1
          have z0 := hr5.frozen 0
          have z1 := hr5.frozen 1
          have b2 : ((5 : Int) != 0) = true := by decide
          clear hm5 hK5 hb5 hr5 ho5 hstep hn5 hk5 hnb hm3 hk3 hkd hbd hrd hod hS d3d q0 q1 y0 y1 hXL e1 e2
          go_wp2_with fail
          obtain ⟨f1, f2, f3⟩ := fin2 (x := .slice V s.n cv) (y := .slice Fa s.k cf) HK5.out HR5.out (by omega)
          exact bodyPost_ret (v := .tuple #[.agg #[.slice V s.n cv, .slice Fa s.k cf], .int .i64 5]) (by simp [results, Try.results32, go_sem, f2, f3, hE]) rfl ⟨_, by rw [HE.out.1], by rw [HE.out.2]; exact HH.out.kept0 f1, f1⟩
      · go_simp
        have hka := (Kept.refl S0 w1).alloc (.cells #[.slice none 0 0, .slice none 0 0] 45)
        have hoa := hka.blk hod (fun x => x)
        have hS2 : (w1.alloc (.cells #[.slice none 0 0, .slice none 0 0] 45)).cell? ⟨w.heap.size + 1 + 1, 0, none⟩ = some (.slice V1 p cv1) ∧ (w1.alloc (.cells #[.slice none 0 0, .slice none 0 0] 45)).cell? ⟨w.heap.size + 1 + 1, 1, none⟩ = some (.slice Fa1 s.k cf1) ∧ (w1.alloc (.cells #[.slice none 0 0, .slice none 0 0] 45)).cell? ⟨b, o + t, none⟩ = some (.int .u8 ((u t).toNat : Int)) := ⟨hoa.cell 0, hoa.cell 1, (hka.cell (p := ⟨b, o + t, none⟩) (World.block_lt_of_cell? _ _ d3d) (fun x => x)).trans d3d⟩
        refine hK10.out _ _ (fun _ => hS2) ?_
        clear hK10 K
        have hna := Blk.new w1 45 #[.slice none 0 0, .slice none 0 0]
        have hXL2 : ∀ i, XL X w.heap.size 3 i ∨ i = w1.heap.size → i < (w1.alloc (.cells #[.slice none 0 0, .slice none 0 0] 45)).heap.size := fun i hi => by
          have : (w1.alloc (.cells #[.slice none 0 0, .slice none 0 0] 45)).heap.size = w1.heap.size + 1 := by simp
          rcases hi with e | e
          · have := hXL i e; omega
          · omega
        have hma : ModIs (fun i => XL X w.heap.size 3 i ∨ i = w1.heap.size) (w1.alloc (.cells #[.slice none 0 0, .slice none 0 0] 45)) _ (s.withN p) := hmd.step ⟨hka.of0 _, fun i hi => hi.elim .inl (fun e => .inr (by omega))⟩
        refine wpAnyR_one 5 rfl (by kernel_rfl) (fun K hK5 => ?_)
        go_simp
        go_at_call 31
        refine (mtakeOf_is (u t) hma HW.out hXL2).mono ?_
        rintro e w3 ⟨mv2, rfl, hm2, hk2⟩
        obtain ⟨V2, cv2, Fa2, cf2, G2, hmv0, _⟩ := hm2.ex
        have hmv : mv2 = .agg #[.slice V2 ((s.withN p).ofN (u t)) cv2, .slice Fa2 s.k cf2] := hmv0
        clear hmv0
        subst hmv
        have hS3 : w3.cell? ⟨w.heap.size + 1 + 1, 0, none⟩ = some (.slice V1 p cv1) ∧ w3.cell? ⟨w.heap.size + 1 + 1, 1, none⟩ = some (.slice Fa1 s.k cf1) ∧ w3.cell? ⟨b, o + t, none⟩ = some (.int .u8 ((u t).toNat : Int)) := ⟨(hk2.blk hoa (fun x => x)).cell 0, (hk2.blk hoa (fun x => x)).cell 1, (hk2.cell (p := ⟨b, o + t, none⟩) (World.block_lt_of_cell? _ _ hS2.2.2) (fun x => x)).trans hS2.2.2⟩
        refine hK5.out _ _ (fun _ => hS3) ?_
        clear hK5 K
        refine wpAnyR_take 6 (v := ?_) rfl (by kernel_rfl) (by kernel_rfl) (by kernel_rfl) (by kernel_rfl) (fun _ _ _ h => h) hS3 ⟨by rfl, ?_⟩ ?_
        rotate_left; (intro w hSw; (try dsimp only at hSw); first | (go_simp; done) | (go_simp; with_reducible rfl))
        simp only [List.getElem_toArray, List.getElem_cons_zero, List.getElem_cons_succ, Act.put, List.setIfInBounds_toArray, List.set_cons_zero, List.set_cons_succ]
        refine wpAnyR_take 7 (v := ?_) rfl (by kernel_rfl) (by kernel_rfl) (by kernel_rfl) (by kernel_rfl) (fun _ _ _ h => h) hS3 ⟨by rfl, ?_⟩ ?_
        rotate_left; (intro w hSw; (try dsimp only at hSw); first | (go_simp; done) | (go_simp; with_reducible rfl))
        simp only [List.getElem_toArray, List.getElem_cons_zero, List.getElem_cons_succ, Act.put, List.setIfInBounds_toArray, List.set_cons_zero, List.set_cons_succ]
        refine wpAnyR_late 8 (v := ?_) rfl (by kernel_rfl) (by kernel_rfl) (by kernel_rfl) (by kernel_rfl) (fun _ _ _ h => h) (fun _ => hS3) ⟨by rfl, ?_⟩ ?_
        rotate_left; (intro w; first | (go_simp; done) | (go_simp; with_reducible rfl))
        simp only [List.getElem_toArray, List.getElem_cons_zero, List.getElem_cons_succ, Act.put, List.setIfInBounds_toArray, List.set_cons_zero, List.set_cons_succ]
        refine wpAnyR_late 9 (v := ?_) rfl (by kernel_rfl) (by kernel_rfl) (by kernel_rfl) (by kernel_rfl) (fun _ _ _ h => h) (fun _ => hS3) ⟨by rfl, ?_⟩ ?_
        rotate_left; (intro w; first | (go_simp; done) | (go_simp; with_reducible rfl))
        simp only [List.getElem_toArray, List.getElem_cons_zero, List.getElem_cons_succ, Act.put, List.setIfInBounds_toArray, List.set_cons_zero, List.set_cons_succ]
        have hnb := hk2.blk hna (fun x => x)
        have hm3 : ModIs (fun i => XL X w.heap.size 3 i ∨ i = w1.heap.size) w3 (.agg #[.slice V2 ((s.withN p).ofN (u t)) cv2, .slice Fa2 s.k cf2]) ((s.withN p).withN ((s.withN p).ofN (u t))) := hm2
        have hk3 : Kept S0 w1 w3 := hka.then0 hk2
        have hnl : w1.heap.size ≤ w1.heap.size := Nat.le_refl _
        generalize hnbe : w1.heap.size = nb at *
        clear hka hk2 hm2 hS2 hS3 hoa hna hma hXL2 hmd
        have q0 := hnb.cell 0
        have q1 := hnb.cell 1
        have y0 := hnb.frozen 0
        have y1 := hnb.frozen 1
        refine wpAnyR_one 11 rfl (by kernel_rfl) (fun K hK11 => ?_)
        go_simp
        refine hK11.out _ _ (fun h => absurd h (by decide)) ?_
        clear hK11 K
        refine wpAnyR_late 12 (v := ?_) rfl (by kernel_rfl) (by kernel_rfl) (by kernel_rfl) (by kernel_rfl) (fun _ _ _ h => h) (fun h => absurd h (by decide)) ⟨by rfl, ?_⟩ ?_
        rotate_left; (intro w; first | (go_simp; done) | (go_simp; with_reducible rfl))
        simp only [List.getElem_toArray, List.getElem_cons_zero, List.getElem_cons_succ, Act.put, List.setIfInBounds_toArray, List.set_cons_zero, List.set_cons_succ]
        refine wpAnyR_late 13 (v := ?_) rfl (by kernel_rfl) (by kernel_rfl) (by kernel_rfl) (by kernel_rfl) (fun _ _ _ h => h) (fun h => absurd h (by decide)) ⟨by rfl, ?_⟩ ?_
        rotate_left; (intro w; first | (go_simp; done) | (go_simp; with_reducible rfl))
        simp only [List.getElem_toArray, List.getElem_cons_zero, List.getElem_cons_succ, Act.put, List.setIfInBounds_toArray, List.set_cons_zero, List.set_cons_succ]
        refine wpAnyR_done (by kernel_rfl) ?_ _
        have hk5 := set2 w3 nb (.slice V2 ((s.withN p).ofN (u t)) cv2) (.slice Fa2 s.k cf2)
        have hn5 : Blk ((w3.setCell ⟨nb, 0, none⟩ (.slice V2 ((s.withN p).ofN (u t)) cv2)).setCell ⟨nb, 1, none⟩ (.slice Fa2 s.k cf2)) nb 45 #[.slice V2 ((s.withN p).ofN (u t)) cv2, .slice Fa2 s.k cf2] := (hnb.set_ 0 _).set_ 1 _
        generalize (w3.setCell ⟨nb, 0, none⟩ (.slice V2 ((s.withN p).ofN (u t)) cv2)).setCell ⟨nb, 1, none⟩ (.slice Fa2 s.k cf2) = w5 at *
        have hw1 : wd.heap.size ≤ w1.heap.size := by omega
        have hnw : ∀ i, i < w.heap.size + 3 → ¬ S1 nb i := fun i hi e => by have e' : i = nb := e; omega
        have hm5 : ModIs (XL X w.heap.size 3) w5 (.agg #[.slice V2 ((s.withN p).ofN (u t)) cv2, .slice Fa2 s.k cf2]) ((s.withN p).withN ((s.withN p).ofN (u t))) := hm3.step ⟨hk5.mono (fun i hi => .inr hi), fun i hi => .inl (.inl hi)⟩
        have hK5 : Kept S0 w w5 := Kept.trans_ (S' := S1 nb) (hkd.then0 hk3) hk5 (fun i hi => .inr (by have e : i = nb := hi; omega))
        have hb5 := hk5.blk (hk3.blk hbd (fun x => x)) (hnw _ (by omega))
        have hr5 := hk5.blk (hk3.blk hrd (fun x => x)) (hnw _ (by omega))
        have ho5 := hk5.blk (hk3.blk hod (fun x => x)) (hnw _ (by omega))
        have hz5 : wd.heap.size ≤ w5.heap.size := Nat.le_trans hw1 (Nat.le_trans hk3.size hk5.size)
        have hstep := pops_of (s.withN p) hk u t
        have hstep : pops s.v s.top.h s.top.dead u (t + 1) p = if (s.withN p).ofE (u t) = 0 then pops s.v s.top.h s.top.dead u t ((s.withN p).ofN (u t)) else none := hstep
        rw [HPO.out] at hstep
        have HM5 := Lib.hid hm5
        have HK5 := Lib.hid hK5
        have HB5 := Lib.hid hb5
        have HR5 := Lib.hid hr5
        have HO5 := Lib.hid ho5
        rcases (s.withN p).ofE_or (u t) with hE | hE
        · rw [hE, if_pos rfl] at hstep
          have HST := Lib.hid hstep
          have n0 := hn5.cell 0
          have n1 := hn5.cell 1
          have x0 := ho5.cell 0
          have x1 := ho5.cell 1
          have z0 := ho5.frozen 0
          have z1 := ho5.frozen 1
          have b2 : ((0 : Int) != 0) = false := by decide
          clear hm5 hK5 hb5 hr5 ho5 hstep hn5 hk5 hnb hm3 hk3 hkd hbd hrd hod hS d3d q0 q1 y0 y1 hXL
          go_wp2_with fail
          go_roundw
          case rel =>
            have ho6 : Blk ((w5.setCell ⟨w.heap.size + 1 + 1, 0, none⟩ (.slice V2 ((s.withN p).ofN (u t)) cv2)).setCell ⟨w.heap.size + 1 + 1, 1, none⟩ (.slice Fa2 s.k cf2)) (w.heap.size + 1 + 1) 45 #[.slice V2 ((s.withN p).ofN (u t)) cv2, .slice Fa2 s.k cf2] := (HO5.out.set_ 0 _).set_ 1 _
            have hk6 := set2 w5 (w.heap.size + 1 + 1) (.slice V2 ((s.withN p).ofN (u t)) cv2) (.slice Fa2 s.k cf2)
            exact ⟨t, _, (s.withN p).ofN (u t), V2, Fa2, cv2, cf2, rfl, rfl, by omega, HW.out.takeOf (u t), HST.out.symm, hk6.blk HB5.out (fun e => by have e' : w.heap.size = w.heap.size + 1 + 1 := e; omega), hk6.blk HR5.out (fun e => by have e' : w.heap.size + 1 = w.heap.size + 1 + 1 := e; omega), ho6, HM5.out.step (.of hk6 (fun i hi => .inr (by have e : i = w.heap.size + 1 + 1 := hi; omega))), Kept.trans_ (S' := S1 (w.heap.size + 1 + 1)) HK5.out hk6 (fun i hi => .inr (by have e : i = w.heap.size + 1 + 1 := hi; omega)), Nat.le_trans hz5 hk6.size⟩
          case measure => simp [intOf]
        · rw [hE, if_neg (by decide)] at hstep
          have e1 : s.allE u m = 5 := by unfold St.allE; rw [hpop, hstep]; rfl
          have e2 : s.allN u m = s.n := by unfold St.allN; rw [hpop, hstep]; rfl
          have HE := Lib.hid (And.intro e1 e2)
          have n0 := hb5.cell 0
          have n1 := hb5.cell 1
          have x0 := hr5.cell 0
          have x1 := hr5.cell 1
          have z0 := hr5.frozen 0
          have z1 := hr5.frozen 1
          have b2 : ((5 : Int) != 0) = true := by decide
          clear hm5 hK5 hb5 hr5 ho5 hstep hn5 hk5 hnb hm3 hk3 hkd hbd hrd hod hS d3d q0 q1 y0 y1 hXL e1 e2
          go_wp2_with fail
          obtain ⟨f1, f2, f3⟩ := fin2 (x := .slice V s.n cv) (y := .slice Fa s.k cf) HK5.out HR5.out (by omega)
          exact bodyPost_ret (v := .tuple #[.agg #[.slice V s.n cv, .slice Fa s.k cf], .int .i64 5]) (by simp [results, Try.results32, go_sem, f2, f3, hE]) rfl ⟨_, by rw [HE.out.1], by rw [HE.out.2]; exact HH.out.kept0 f1, f1⟩
end
end Go.Proofs.Ytpbaojjcbpfdaaa
