/- The document's checker: Open in terms of the plain model. No condition. -/
import Derived.Test.YtpbaojjcbpfdaaaStkV
namespace Go.Proofs.Ytpbaojjcbpfdaaa
open Go.RowKit

section
variable {X : Nat → Prop} {w w' : World} {s : St} {mv : Value}

set_option maxHeartbeats 6400000 in
theorem mopen_is (op : Int) (A B : Option Addr) (m c e d : Nat) (u t : Nat → UInt8) (h : ModIs X w mv s) (hX : ∀ i, X i → i < w.heap.size) (hA : Came S0 w A m c u) (hB : Came S0 w B e d t) (hk : s.k + 1 ≤ 1000000000) (hn : s.n + m ≤ 140737488351232) :
    Calls Try.prog 33 #[mv, .int .u16 op, .slice A m c, .slice B e d] w fun e' w' => ∃ mv', e' = .returned mv' ∧ ModIs X w' mv' (s.open op m u e t) ∧ Kept S0 w w' := by
  obtain ⟨V, cv, Fa, cf, G, rfl, hat⟩ := h.ex
  have hkd : Kept S0 w ((w.alloc (.cells #[.slice V s.n cv, .slice Fa s.k cf] 45)).alloc (.cells #[.slice none 0 0, .slice none 0 0] 45)) := ((Kept.refl S0 w).alloc _).alloc _
  have hbd : Blk ((w.alloc (.cells #[.slice V s.n cv, .slice Fa s.k cf] 45)).alloc (.cells #[.slice none 0 0, .slice none 0 0] 45)) w.heap.size 45 #[.slice V s.n cv, .slice Fa s.k cf] := (Blk.new w _ _).alloc _
  have hrd : Blk ((w.alloc (.cells #[.slice V s.n cv, .slice Fa s.k cf] 45)).alloc (.cells #[.slice none 0 0, .slice none 0 0] 45)) (w.heap.size + 1) 45 #[.slice none 0 0, .slice none 0 0] := Blk.new1 w _ _ _
  have hsz : ((w.alloc (.cells #[.slice V s.n cv, .slice Fa s.k cf] 45)).alloc (.cells #[.slice none 0 0, .slice none 0 0] 45)).heap.size = w.heap.size + 2 := by simp
  have CP := Lib.hid ((hat.kept0 hkd).copied (by omega))
  have HFR := Lib.hid (hat.fr.step (loc_in 2 hkd))
  have HA := Lib.hid (hA.kept hkd)
  have HB := Lib.hid (hB.kept hkd)
  clear h hat hA hB
  go_enter Try.func33, Try.ntmps33
  go_wp2_with fail
  generalize (w.alloc (.cells #[.slice V s.n cv, .slice Fa s.k cf] 45)).alloc (.cells #[.slice none 0 0, .slice none 0 0] 45) = wd at *
  refine CP.out.mono ?_
  rintro e' w2 ⟨x, y, rfl, hx, hy, hk2⟩
  obtain ⟨xA, xc, rfl, _, _, _⟩ := hx.out
  obtain ⟨yA, yc, rfl, _, _, _⟩ := hy.out
  have hkS := hk2.size
  have hk3 := hk2.alloc (.cells #[.slice xA s.n xc, .slice yA s.k yc] 45)
  have hka := (Kept.refl S0 w2).alloc (.cells #[.slice xA s.n xc, .slice yA s.k yc] 45)
  have hb3 := hk3.blk hbd (fun x => x)
  have hr3 := hk3.blk hrd (fun x => x)
  have hn3 := Blk.new w2 45 #[.slice xA s.n xc, .slice yA s.k yc]
  have hx3 := hx.kept hka (fun _ _ x => x)
  have hy3 := hy.kept hka (fun _ _ x => x)
  clear hx hy hka CP hbd hrd
  go_wp2_with fail
  have hdd := (Kept.refl S0 (w2.alloc (.cells #[.slice xA s.n xc, .slice yA s.k yc] 45))).drew
  have hbD := hdd.blk hb3 (fun x => x)
  have hrD := hdd.blk hr3 (fun x => x)
  have hnD := hdd.blk hn3 (fun x => x)
  have hxD := hx3.kept hdd (fun _ _ x => x)
  have hyD := hy3.kept hdd (fun _ _ x => x)
  have hkD := hk3.then0 hdd
  have hnbS := hkS
  generalize hnb : w2.heap.size = nb at *
  refine wp_region_S (fun w' => w'.cell? ⟨nb, 1, none⟩ = some (.slice yA s.k yc) ∧ w'.cell? ⟨w.heap.size, 0, none⟩ = some (.slice V s.n cv)) [13, 14] (by kernel_rfl) ?_
  generalize (w2.alloc (.cells #[.slice xA s.n xc, .slice yA s.k yc] 45)).drew = w4 at *
  clear hdd hb3 hr3 hn3 hx3 hy3 hk3 hk2
  have hS : w4.cell? ⟨nb, 1, none⟩ = some (.slice yA s.k yc) ∧ w4.cell? ⟨w.heap.size, 0, none⟩ = some (.slice V s.n cv) := ⟨hnD.cell 1, hbD.cell 0⟩
  refine wpAnyS_take 0 (v := ?_) rfl (by kernel_rfl) (by kernel_rfl) (by kernel_rfl) (by kernel_rfl) (fun _ _ _ h => h) hS ⟨by rfl, ?_⟩ ?_
  rotate_left; (intro w hSw; (try dsimp only at hSw); first | (go_simp; done) | (go_simp; with_reducible rfl))
  simp only [List.getElem_toArray, List.getElem_cons_zero, Act.put, List.setIfInBounds_toArray, List.set_cons_zero, List.set_cons_succ]
  refine wpAnyS_take 1 (v := ?_) rfl (by kernel_rfl) (by kernel_rfl) (by kernel_rfl) (by kernel_rfl) (fun _ _ _ h => h) hS ⟨by rfl, ?_⟩ ?_
  rotate_left; (intro w hSw; (try dsimp only at hSw); first | (go_simp; done) | (go_simp; with_reducible rfl))
  simp only [List.getElem_toArray, List.getElem_cons_zero, List.getElem_cons_succ, Act.put, List.setIfInBounds_toArray, List.set_cons_zero, List.set_cons_succ]
  refine wpAnyS_take 2 (v := ?_) rfl (by kernel_rfl) (by kernel_rfl) (by kernel_rfl) (by kernel_rfl) (fun _ _ _ h => h) hS ⟨by rfl, ?_⟩ ?_
  rotate_left; (intro w hSw; (try dsimp only at hSw); first | (go_simp; done) | (go_simp; with_reducible rfl))
  simp only [List.getElem_toArray, List.getElem_cons_zero, List.getElem_cons_succ, Act.put, List.setIfInBounds_toArray, List.set_cons_zero, List.set_cons_succ]
  refine wpAnyS_take 3 (v := ?_) rfl (by kernel_rfl) (by kernel_rfl) (by kernel_rfl) (by kernel_rfl) (fun _ _ _ h => h) hS ⟨by rfl, ?_⟩ ?_
  rotate_left; (intro w hSw; (try dsimp only at hSw); first | (go_simp; done) | (go_simp; with_reducible rfl))
  simp only [List.getElem_toArray, List.getElem_cons_zero, List.getElem_cons_succ, Act.put, List.setIfInBounds_toArray, List.set_cons_zero, List.set_cons_succ]
  refine wpAnyS_take 5 (v := ?_) rfl (by kernel_rfl) (by kernel_rfl) (by kernel_rfl) (by kernel_rfl) (fun _ _ _ h => h) hS ⟨by rfl, ?_⟩ ?_
  rotate_left; (intro w hSw; (try dsimp only at hSw); first | (go_simp; done) | (go_simp; with_reducible rfl))
  simp only [List.getElem_toArray, List.getElem_cons_zero, List.getElem_cons_succ, Act.put, List.setIfInBounds_toArray, List.set_cons_zero, List.set_cons_succ]
  refine wpAnyS_take 7 (v := ?_) rfl (by kernel_rfl) (by kernel_rfl) (by kernel_rfl) (by kernel_rfl) (fun _ _ _ h => h) hS ⟨by rfl, ?_⟩ ?_
  rotate_left; (intro w hSw; (try dsimp only at hSw); first | (go_simp; done) | (go_simp; with_reducible rfl))
  simp only [List.getElem_toArray, List.getElem_cons_zero, List.getElem_cons_succ, Act.put, List.setIfInBounds_toArray, List.set_cons_zero, List.set_cons_succ]
  refine wpAnyS_take 8 (v := ?_) rfl (by kernel_rfl) (by kernel_rfl) (by kernel_rfl) (by kernel_rfl) (fun _ _ _ h => h) hS ⟨by rfl, ?_⟩ ?_
  rotate_left; (intro w hSw; (try dsimp only at hSw); first | (go_simp; done) | (go_simp; with_reducible rfl))
  simp only [List.getElem_toArray, List.getElem_cons_zero, List.getElem_cons_succ, Act.put, List.setIfInBounds_toArray, List.set_cons_zero, List.set_cons_succ]
  refine wpAnyS_take 9 (v := ?_) rfl (by kernel_rfl) (by kernel_rfl) (by kernel_rfl) (by kernel_rfl) (fun _ _ _ h => h) hS ⟨by rfl, ?_⟩ ?_
  rotate_left; (intro w hSw; (try dsimp only at hSw); first | (go_simp; done) | (go_simp; with_reducible rfl))
  simp only [List.getElem_toArray, List.getElem_cons_zero, List.getElem_cons_succ, Act.put, List.setIfInBounds_toArray, List.set_cons_zero, List.set_cons_succ]
  refine wpAnyS_one 4 rfl (by kernel_rfl) (fun K hK4 => ?_)
  go_simp
  go_at_call 24
  refine (copyT_any A m c u (HA.out.kept hkD)).mono ?_
  rintro e' w5 ⟨x1, rfl, ho1, hk5⟩
  have hb5 := hk5.blk hbD (fun x => x)
  have hr5 := hk5.blk hrD (fun x => x)
  have hn5 := hk5.blk hnD (fun x => x)
  have hS5 : w5.cell? ⟨nb, 1, none⟩ = some (.slice yA s.k yc) ∧ w5.cell? ⟨w.heap.size, 0, none⟩ = some (.slice V s.n cv) := ⟨hn5.cell 1, hb5.cell 0⟩
  refine hK4.out _ _ (fun _ => hS5) ?_
  clear hK4 K
  refine wpAnyS_one 6 rfl (by kernel_rfl) (fun K hK6 => ?_)
  go_simp
  go_at_call 24
  refine (copyT_any B e d t ((HB.out.kept hkD).kept hk5)).mono ?_
  rintro e' w6 ⟨x2, rfl, ho2, hk6⟩
  have hb6 := hk6.blk hb5 (fun x => x)
  have hr6 := hk6.blk hr5 (fun x => x)
  have hn6 := hk6.blk hn5 (fun x => x)
  have hS6 : w6.cell? ⟨nb, 1, none⟩ = some (.slice yA s.k yc) ∧ w6.cell? ⟨w.heap.size, 0, none⟩ = some (.slice V s.n cv) := ⟨hn6.cell 1, hb6.cell 0⟩
  refine hK6.out _ _ (fun _ => hS6) ?_
  clear hK6 K
  obtain ⟨A1, a1, rfl, _, _, _⟩ := ho1.out
  obtain ⟨A2, a2, rfl, _, _, _⟩ := ho2.out
  refine wpAnyS_take 10 (v := ?_) rfl (by kernel_rfl) (by kernel_rfl) (by kernel_rfl) (by kernel_rfl) (fun _ _ _ h => h) hS6 ⟨by rfl, ?_⟩ ?_
  rotate_left; (intro w hSw; (try dsimp only at hSw); first | (go_simp; done) | (go_simp; with_reducible rfl))
  simp only [List.getElem_toArray, List.getElem_cons_zero, List.getElem_cons_succ, Act.put, List.setIfInBounds_toArray, List.set_cons_zero, List.set_cons_succ]
  refine wpAnyS_one 11 rfl (by kernel_rfl) (fun K hK11 => ?_)
  go_simp
  refine hK11.out _ _ (fun _ => ⟨(hn6.alloc _).cell 1, (hb6.alloc _).cell 0⟩) ?_
  clear hK11 K
  have hka := (Kept.refl S0 w6).alloc (.cells #[.int .u16 op, .slice A1 m a1, .slice A2 e a2, .int .i64 (s.n : Int), .bool false] 39)
  have hna := Blk.new w6 39 #[.int .u16 op, .slice A1 m a1, .slice A2 e a2, .int .i64 (s.n : Int), .bool false]
  have hya := ((hyD.kept hk5 (fun _ _ x => x)).kept hk6 (fun _ _ x => x)).kept hka (fun _ _ x => x)
  have hxa := ((hxD.kept hk5 (fun _ _ x => x)).kept hk6 (fun _ _ x => x)).kept hka (fun _ _ x => x)
  have hba := hka.blk hb6 (fun x => x)
  have hra := hka.blk hr6 (fun x => x)
  have hnna := hka.blk hn6 (fun x => x)
  have ho1a := (ho1.kept hk6 (fun _ _ x => x)).kept hka (fun _ _ x => x)
  have ho2a := ho2.kept hka (fun _ _ x => x)
  have hkA : Kept S0 wd (w6.alloc (.cells #[.int .u16 op, .slice A1 m a1, .slice A2 e a2, .int .i64 (s.n : Int), .bool false] 39)) := ((hkD.then0 hk5).then0 hk6).then0 hka
  have hsl : Sl (w6.alloc (.cells #[.int .u16 op, .slice A1 m a1, .slice A2 e a2, .int .i64 (s.n : Int), .bool false] 39)) (some ⟨w6.heap.size, 0, none⟩) (1 * 5) (frC op (.slice A1 m a1) (.slice A2 e a2) s.n false) :=
    fun _ => ⟨_, 0, rfl, fun i hi => (by match i, hi with | 0, _ => exact hna.cell 0 | 1, _ => exact hna.cell 1 | 2, _ => exact hna.cell 2 | 3, _ => exact hna.cell 3 | 4, _ => exact hna.cell 4)⟩
  refine wpAnyS_one 12 rfl (by kernel_rfl) (fun K hK12 => ?_)
  refine step_append_all rfl (.tmp 13) (.tmp 23) 43 rfl wd.heap.size 39 (.agg #[.int .u16 0, .slice none 0 0, .slice none 0 0, .int .i64 0, .bool false]) 5 72 Try.underlying43 Try.infoFr rfl (by decide) AnyV (fun _ _ => trivial) (.slice yA s.k yc) s.k G rfl hya _ 1 1 (frC op (.slice A1 m a1) (.slice A2 e a2) s.n false) rfl hsl (fun h => by cases h) (fun _ _ => trivial) (fun _ _ => frC_one _ _ _ _ _ _ _ _ _ _) (by unfold maxLen; omega) (by omega) hkA.size ?_
  intro v' w7 ha
  replace ha : Appended _ w7 wd.heap.size 39 5 AnyV (.slice yA s.k yc) v' (s.k + 1) (after (s.k * 5) G (frC op (.slice A1 m a1) (.slice A2 e a2) s.n false)) 1 := ha
  obtain ⟨zA, zc, rfl, _, _, _⟩ := ha.own.out
  have hne : ∀ g cs, Blk _ g 45 cs → (Value.slice yA s.k yc).ownBlock ≠ some g := fun g cs hg => hya.ne_blk hg (by decide)
  have hb7 := (ha.grown.block _ hba.lt (fun e => hne _ _ hba e.symm)).trans hba
  have hr7 := (ha.grown.block _ hra.lt (fun e => hne _ _ hra e.symm)).trans hra
  have hn7 := (ha.grown.block _ hnna.lt (fun e => hne _ _ hnna e.symm)).trans hnna
  have hn7 : Blk w7 nb 45 #[.slice xA s.n xc, .slice yA s.k yc] := hn7
  have hb7 : Blk w7 w.heap.size 45 #[.slice V s.n cv, .slice Fa s.k cf] := hb7
  have hr7 : Blk w7 (w.heap.size + 1) 45 #[.slice none 0 0, .slice none 0 0] := hr7
  have hS7 : w7.cell? ⟨nb, 1, none⟩ = some (.slice yA s.k yc) ∧ w7.cell? ⟨w.heap.size, 0, none⟩ = some (.slice V s.n cv) := ⟨hn7.cell 1, hb7.cell 0⟩
  refine hK12.out _ _ (fun _ => hS7) ?_
  clear hK12 K
  refine wpAnyS_late 13 (v := ?_) rfl (by kernel_rfl) (by kernel_rfl) (by kernel_rfl) (by kernel_rfl) (fun _ _ _ h => h) ⟨by rfl, ?_⟩ ?_
  rotate_left; (intro w; first | (go_simp; done) | (go_simp; with_reducible rfl))
  simp only [List.getElem_toArray, List.getElem_cons_zero, List.getElem_cons_succ, Act.put, List.setIfInBounds_toArray, List.set_cons_zero, List.set_cons_succ]
  have z1 := hn7.frozen 1
  have y1 := hn7.cell 1
  refine wpAnyS_one 14 rfl (by kernel_rfl) (fun K hK14 => ?_)
  go_simp
  refine hK14.out _ _ (fun h => absurd (by decide) h) ?_
  clear hK14 K
  refine wpAnyS_done (by kernel_rfl) ?_ _
  have hn8 : Blk (w7.setCell ⟨nb, 1, none⟩ (.slice zA (s.k + 1) zc)) nb 45 #[.slice xA s.n xc, .slice zA (s.k + 1) zc] := hn7.set_ 1 _
  have hk78 : Kept (S1 nb) w7 (w7.setCell ⟨nb, 1, none⟩ (.slice zA (s.k + 1) zc)) := (Kept.refl (S1 nb) w7).setCell (p := ⟨nb, 1, none⟩) (.inl rfl) _
  generalize w7.setCell ⟨nb, 1, none⟩ (.slice zA (s.k + 1) zc) = w8 at *
  have hnbl : wd.heap.size ≤ nb := hnbS
  have hkW7 : Kept S0 wd w7 := hkA.grown ha.grown (fun g hg => .inr (hya.lt g hg).1)
  have hkW8 : Kept S0 wd w8 := Kept.trans_ (S' := S1 nb) hkW7 hk78 (fun i hi => .inr (by have e : i = nb := hi; omega))
  have hgk : Kept (fun i => (Value.slice yA s.k yc).ownBlock = some i) _ w7 := (Kept.refl _ _).grown ha.grown (fun g hg => .inl hg)
  have ne8 : ∀ {x : Value} {b n e sz : Nat} {Q : Value → Prop} {F : Nat → Value}, Own w7 b e sz Q x n F → e ≠ 45 → ∀ g, x.ownBlock = some g → ¬ S1 nb g := fun h he g hg e => h.ne_blk hn7 he (by rw [hg]; exact congrArg some e)
  have hx7 := hxa.kept hgk (own_types hxa hya (by decide))
  have hx8 := hx7.kept hk78 (ne8 hx7 (by decide))
  have hz8 := ha.own.kept hk78 (ne8 ha.own (by decide))
  have h17 := ho1a.kept hgk (own_types ho1a hya (by decide))
  have h18 := h17.kept hk78 (ne8 h17 (by decide))
  have h27 := ho2a.kept hgk (own_types ho2a hya (by decide))
  have h28 := h27.kept hk78 (ne8 h27 (by decide))
  have hr8 := hk78.blk hr7 (fun e => by have e' : w.heap.size + 1 = nb := e; omega)
  have hXL : ∀ i, XL X w.heap.size 2 i → i < wd.heap.size := fun i hi => by
    rcases hi with e | e
    · have := hX i e; omega
    · omega
  have hle4 : wd.heap.size ≤ w4.heap.size := hkD.size
  have hle5 : wd.heap.size ≤ w5.heap.size := Nat.le_trans hle4 hk5.size
  obtain ⟨_, _, e1, hc1⟩ := came_own (S := XL X w.heap.size 2) (h18.mono hle4) (fun g hg e => by have := ((h18.mono hle4).lt g hg).1; have := hXL g e; omega) HA.out.le
  cases e1
  obtain ⟨_, _, e2, hc2⟩ := came_own (S := XL X w.heap.size 2) (h28.mono hle5) (fun g hg e => by have := ((h28.mono hle5).lt g hg).1; have := hXL g e; omega) HB.out.le
  cases e2
  have hfr8 : FrsOk (XL X w.heap.size 2) w8 (after (s.k * 5) G (frC op (.slice A1 m a1) (.slice A2 e a2) s.n false)) (s.k + 1) (s.open op m u e t).D := fun q hq => by
    by_cases eq : q = s.k
    · subst eq
      simp only [St.open, if_true]
      exact ⟨_, _, _, _, frAt_new s.k op _ _ s.n false, hc1, hc2⟩
    · simp only [St.open, if_neg eq]
      exact (HFR.out.step (.of0 hkW8)).congr (fun i hi => by unfold after; rw [if_pos hi]) q (by omega)
  have hmod : ModIs (XL X w.heap.size 2) w8 (.agg #[.slice xA s.n xc, .slice zA (s.k + 1) zc]) ⟨s.n, s.v, s.k + 1, (s.open op m u e t).D⟩ := modIs_own (s := ⟨s.n, s.v, s.k + 1, (s.open op m u e t).D⟩) hx8 hz8 hXL (by show s.n ≤ _; omega) hfr8
  have MP := Lib.hid (mpush_is (s := ⟨s.n, s.v, s.k + 1, (s.open op m u e t).D⟩) A m c u hmod (fun i hi => Nat.lt_of_lt_of_le (hXL i hi) hkW8.size) (HA.out.kept hkW8).at (fun h => (HA.out.none h).1) (by show s.k + 1 ≤ _; omega) hn)
  have n0 := hn8.cell 0
  have n1 := hn8.cell 1
  have HK8 := Lib.hid (hkd.then0 hkW8)
  have HR8 := Lib.hid hr8
  clear hn8 hk78 hkW7 hkW8 hgk hx7 hx8 hz8 h17 h18 h27 h28 hr8 hc1 hc2 hfr8 hmod ha hb7 hr7 hn7 hba hra hnna hya hxa ho1a ho2a hkA hsl hna hka hS hS5 hS6 hS7 hb5 hr5 hn5 hb6 hr6 hn6 hxD hyD hbD hrD hnD hkD hk5 hk6 ho1 ho2 z1 y1 hne ne8 HA HB HFR
  go_wp2_with fail
  refine MP.out.mono ?_
  rintro e' w9 ⟨mv', rfl, hm9, hk9⟩
  obtain ⟨V2, cv2, Fa2, cf2, G2, hmv, _⟩ := hm9.ex
  have hmv : mv' = .agg #[.slice V2 (s.n + m) cv2, .slice Fa2 (s.k + 1) cf2] := hmv
  subst hmv
  have hr9 := hk9.blk HR8.out (fun x => x)
  have r0 := hr9.cell 0
  have r1 := hr9.cell 1
  have z0 := hr9.frozen 0
  have z1 := hr9.frozen 1
  have HK9 := Lib.hid (HK8.out.then0 hk9)
  have HR9 := Lib.hid hr9
  have HM9 := Lib.hid hm9
  clear hm9 hk9 hr9 MP n0 n1
  go_wp2_with fail
  have hset := loc_out (X := X) (b := w.heap.size) (n := 2) (set2 w9 (w.heap.size + 1) (.slice V2 (s.n + m) cv2) (.slice Fa2 (s.k + 1) cf2)) (fun i hi => by have e : i = w.heap.size + 1 := hi; omega)
  obtain ⟨f1, f2, f3⟩ := fin2 (x := .slice V2 (s.n + m) cv2) (y := .slice Fa2 (s.k + 1) cf2) HK9.out HR9.out (by omega)
  exact bodyPost_ret (v := .agg #[.slice V2 (s.n + m) cv2, .slice Fa2 (s.k + 1) cf2]) (by simp [results, Try.results33, go_sem, f2, f3]) rfl ⟨_, rfl, HM9.out.step hset, f1⟩
end
end Go.Proofs.Ytpbaojjcbpfdaaa
