/- The document's checker: Dead in terms of the plain model. No condition. -/
import Derived.Test.YtpbaojjcbpfdaaaStkY
namespace Go.Proofs.Ytpbaojjcbpfdaaa
open Go.RowKit

section
variable {X : Nat → Prop} {w w' : World} {s : St} {mv : Value}

theorem FrsOk.dead {F : Nat → Value} {n q : Nat} {v : Nat → UInt8} {D : Nat → Frm} (hF : FrsOk X w F (q + 1) D) : FrsOk X w (deadF F q) (q + 1) (St.dead ⟨n, v, q + 1, D⟩).D := fun r hr => by
  obtain ⟨A, c1, B, c2, hf, hA, hB⟩ := hF r hr
  by_cases e : r = q
  · subst e
    refine ⟨A, c1, B, c2, ?_⟩
    simp only [St.dead, St.top, Nat.add_sub_cancel, if_true, if_neg (show ¬ (r + 1 = 0) by omega)]
    exact ⟨deadF_at hf, hA, hB⟩
  · simp only [St.dead, St.top, Nat.add_sub_cancel, if_neg (show ¬ (q + 1 = 0) by omega), if_neg e]
    refine ⟨A, c1, B, c2, ⟨?_, ?_, ?_, ?_, ?_⟩, hA, hB⟩
    · unfold deadF; rw [if_neg (by omega)]; exact hf.f0
    · unfold deadF; rw [if_neg (by omega)]; exact hf.f1
    · unfold deadF; rw [if_neg (by omega)]; exact hf.f2
    · unfold deadF; rw [if_neg (by omega)]; exact hf.f3
    · unfold deadF; rw [if_neg (by omega)]; exact hf.f4

theorem own_row {w : World} {b e1 e2 s1 n N g : Nat} {Q : Value → Prop} {x : Value} {F f : Nat → Value} (h : Own w b e1 s1 Q x n F) (hr : w.rowIs g e2 N f) (hne : e1 ≠ e2) : ∀ i, x.ownBlock = some i → ¬ S1 g i := fun i hi e => by
  rcases h with ⟨rfl, _⟩ | ⟨g1, c1, f1, rfl, _, _, _, r1, _⟩
  · simp [Value.ownBlock] at hi
  have e' : i = g := e
  subst e'
  obtain rfl : g1 = i := by simpa [Value.ownBlock] using hi
  obtain ⟨cs1, p1, _, _⟩ := r1
  obtain ⟨cs2, p2, _, _⟩ := hr
  rw [p1] at p2
  injection p2 with p2
  injection p2 with _ p2
  exact hne p2

theorem Own.head {w : World} {base e size n j c : Nat} {Q : Value → Prop} {A E : Option Addr} {F : Nat → Value} (h : Own w base e size Q (.slice A n c) n F) (hj : j ≤ n) (hE : E = if c = 0 then A else A.map (·.add (0 * 1))) : Own w base e size Q (.slice E j c) j F := by
  rcases h with ⟨h, h1⟩ | ⟨g, cap, fr, h, h2, h3, h4, h5, h6, h7⟩
  · cases h
    subst hE
    exact .inl ⟨by rw [show j = 0 by omega]; rfl, by omega⟩
  · cases h
    have hE : E = some ⟨g, 0, none⟩ := by
      rw [hE]
      split
      · rfl
      · simp [Addr.add_lit]
    subst hE
    exact .inr ⟨g, c, fr, rfl, h2, by omega, h4, h5, fun i hi => h6 i (Nat.lt_of_lt_of_le hi (Nat.mul_le_mul_right _ hj)), h7⟩

set_option maxHeartbeats 6400000 in
theorem mdead_some {n q : Nat} {v : Nat → UInt8} {D : Nat → Frm} (h : ModIs X w mv ⟨n, v, q + 1, D⟩) (hw : St.Wf ⟨n, v, q + 1, D⟩) (hX : ∀ i, X i → i < w.heap.size) : Calls Try.prog 36 #[mv] w fun e w' =>
    ∃ mv', e = .returned (.tuple #[mv', .int .i64 0]) ∧ ModIs X w' mv' (St.dead ⟨n, v, q + 1, D⟩) ∧ Kept S0 w w' := by
  obtain ⟨V, cv, Fa, cf, G, hmv, hat⟩ := h.ex
  have hmv : mv = .agg #[.slice V n cv, .slice Fa (q + 1) cf] := hmv
  subst hmv
  have hq : q + 1 ≤ 1000000000 := hw.k
  have hn : n ≤ 140737488351232 := hw.n
  have hle : (D q).h ≤ n := hw.le q (Nat.lt_succ_self q)
  have hf : ∃ x y, FrAt G q (D q).op x y (D q).h (D q).dead := by
    obtain ⟨_, _, A, c, B, e', _, hf, _, _, _⟩ := hat.top rfl
    exact ⟨_, _, hf⟩
  obtain ⟨xf, yf, hf⟩ := hf
  have hkd : Kept S0 w ((w.alloc (.cells #[.slice V n cv, .slice Fa (q + 1) cf] 45)).alloc (.cells #[.slice none 0 0, .slice none 0 0] 45)) := ((Kept.refl S0 w).alloc _).alloc _
  have hrd : Blk ((w.alloc (.cells #[.slice V n cv, .slice Fa (q + 1) cf] 45)).alloc (.cells #[.slice none 0 0, .slice none 0 0] 45)) (w.heap.size + 1) 45 #[.slice none 0 0, .slice none 0 0] := Blk.new1 w _ _ _
  have hsz : ((w.alloc (.cells #[.slice V n cv, .slice Fa (q + 1) cf] 45)).alloc (.cells #[.slice none 0 0, .slice none 0 0] 45)).heap.size = w.heap.size + 2 := by simp
  have cp0 := (hat.kept0 hkd).copied hq
  have CP := Lib.hid (show Calls Try.prog 38 #[.agg #[.slice V n cv, .slice Fa (q + 1) cf]] _ fun e w' => ∃ x y, e = .returned (.agg #[x, y]) ∧ Own w' _ 30 1 IsByte x n (byteV v) ∧ Own w' _ 39 5 AnyV y (q + 1) G ∧ Kept S0 _ w' from cp0)
  clear cp0
  have HFR := Lib.hid hat.fr
  have b1 : ((q : Int) + 1 == 0) = false := beq_eq_false_iff_ne.2 (by omega)
  have u1 : IntKind.i64.wrap ((q : Int) + 1 - 1) = (q : Int) := by rw [IntWalk.i64_in _ (by omega)]; omega
  have u2 : (q : Int) < (q : Int) + 1 := by omega
  have u3 : IntKind.i64.wrap (q : Int) = (q : Int) := IntWalk.i64_in _ (by omega)
  clear h hat
  go_enter Try.func36, Try.ntmps36
  go_wp2_with fail
  generalize (w.alloc (.cells #[.slice V n cv, .slice Fa (q + 1) cf] 45)).alloc (.cells #[.slice none 0 0, .slice none 0 0] 45) = wd at *
  refine CP.out.mono ?_
  rintro e w2 ⟨x, y, rfl, hx, hy, hk2⟩
  have hx : Own w2 wd.heap.size 30 1 IsByte x n (byteV v) := hx
  have hy : Own w2 wd.heap.size 39 5 AnyV y (q + 1) G := hy
  obtain ⟨xA, xc, rfl, hxc, _, _⟩ := hx.out
  rcases hy with ⟨_, h0⟩ | ⟨gy, yc, fr, rfl, hyb, hyn, hyc, hrow, hfr, hq'⟩
  · omega
  have hka := (Kept.refl S0 w2).alloc (.cells #[.slice xA n xc, .slice (some ⟨gy, 0, none⟩) (q + 1) yc] 45)
  have hr3 := (hk2.then0 hka).blk hrd (fun x => x)
  have hn3 := Blk.new w2 45 #[.slice xA n xc, .slice (some ⟨gy, 0, none⟩) (q + 1) yc]
  have hx3 := hx.kept hka (fun _ _ x => x)
  have hrow3 := hka.row hrow (fun x => x)
  have hgl := hrow.lt
  have hnl : wd.heap.size ≤ w2.heap.size := hk2.size
  have hgn : gy ≠ w2.heap.size := by omega
  have hk3 := hk2.then0 hka
  generalize hnb : w2.heap.size = nb at *
  have g3 : (w2.alloc (.cells #[.slice xA n xc, .slice (some ⟨gy, 0, none⟩) (q + 1) yc] 45)).cell? ⟨gy, q * 5 + 4, none⟩ = some (fr (q * 5 + 4)) := hrow3.cell (by omega)
  have y3 := hrow3.frozen (q * 5 + 4)
  have d0 := hn3.cell 0
  have d1 := hn3.cell 1
  have HN := Lib.hid hn3
  have HR := Lib.hid hr3
  have HXX := Lib.hid hx3
  have HROW := Lib.hid hrow3
  have HK := Lib.hid hk3
  have HFRR := Lib.hid hfr
  have HROW2 := Lib.hid hrow
  have HX2 := Lib.hid hx
  have HR2 := Lib.hid (hk2.blk hrd (fun x => x))
  have HK2 := Lib.hid hk2
  clear hrd hk2 hka hr3 hn3 hx3 hrow3 hk3 hx hrow CP hfr hq'
  go_wp2_with fail
  have hn4 : Blk ((w2.setCell ⟨gy, q * 5 + 4, none⟩ (.bool true)).alloc (.cells #[.slice xA n xc, .slice (some ⟨gy, 0, none⟩) (q + 1) yc] 45)) nb 45 #[.slice xA n xc, .slice (some ⟨gy, 0, none⟩) (q + 1) yc] := by
    have h := Blk.new (w2.setCell ⟨gy, q * 5 + 4, none⟩ (.bool true)) 45 #[.slice xA n xc, .slice (some ⟨gy, 0, none⟩) (q + 1) yc]
    have e : (w2.setCell ⟨gy, q * 5 + 4, none⟩ (.bool true)).heap.size = nb := by rw [← hnb]; simp [World.setCell]
    rwa [e] at h
  have hk4 : Kept (S1 gy) w2 ((w2.setCell ⟨gy, q * 5 + 4, none⟩ (.bool true)).alloc (.cells #[.slice xA n xc, .slice (some ⟨gy, 0, none⟩) (q + 1) yc] 45)) := ((Kept.refl (S1 gy) w2).setCell (p := ⟨gy, q * 5 + 4, none⟩) (.inl rfl) _).alloc _
  have hrow4 := ((Kept.refl S0 (w2.setCell ⟨gy, q * 5 + 4, none⟩ (.bool true))).alloc (.cells #[.slice xA n xc, .slice (some ⟨gy, 0, none⟩) (q + 1) yc] 45)).row (HROW2.out.set (q * 5 + 4) (.bool true)) (fun x => x)
  generalize (w2.setCell ⟨gy, q * 5 + 4, none⟩ (.bool true)).alloc (.cells #[.slice xA n xc, .slice (some ⟨gy, 0, none⟩) (q + 1) yc] 45) = w4 at *
  have hx4 := HX2.out.kept hk4 (own_row HX2.out HROW2.out (by decide))
  have hr4 := hk4.blk HR2.out (fun e => by have e' : w.heap.size + 1 = gy := e; omega)
  have t0 : w4.cell? ⟨nb, 0, none⟩ = some (.slice xA n xc) := hn4.cell 0
  have t1 : w4.cell? ⟨nb, 1, none⟩ = some (.slice (some ⟨gy, 0, none⟩) (q + 1) yc) := hn4.cell 1
  have z0 := hn4.frozen 0
  have t3 : w4.cell? ⟨gy, q * 5 + 3, none⟩ = some (.int .i64 ((D q).h : Int)) := by
    have h := hrow4.cell (i := q * 5 + 3) (by omega)
    rw [if_neg (by omega)] at h
    rw [h, HFRR.out _ (by omega), hf.f3]
  obtain ⟨E, rr1, d2⟩ := run_cut_h (P := Try.prog) 22 30 Try.underlying22 Try.sizeT xA n xc .i64 ((D q).h : Int) (D q).h rfl (by omega)
  have HN4 := Lib.hid hn4
  have HK4 := Lib.hid hk4
  have HROW4 := Lib.hid hrow4
  have HX4 := Lib.hid hx4
  have HR4 := Lib.hid hr4
  have HD2 := Lib.hid d2
  clear hn4 hk4 hrow4 hx4 hr4 d2 g3 y3 d0 d1 HR HXX HROW HK HN
  go_still_tail 9, (by kernel_rfl)
  change wpList _ _ _ _ _ w4.drew
  have hn5 : Blk (w4.setCell ⟨nb, 0, none⟩ (.slice E (D q).h xc)) nb 45 #[.slice E (D q).h xc, .slice (some ⟨gy, 0, none⟩) (q + 1) yc] := HN4.out.set_ 0 _
  have hk5 : Kept (S1 nb) w4 (w4.setCell ⟨nb, 0, none⟩ (.slice E (D q).h xc)) := (Kept.refl (S1 nb) w4).setCell (p := ⟨nb, 0, none⟩) (.inl rfl) _
  have hr5 := hk5.blk HR4.out (fun e => by have e' : w.heap.size + 1 = nb := e; omega)
  have n0 := hn5.cell 0
  have n1 := hn5.cell 1
  have r0 := hr5.cell 0
  have r1 := hr5.cell 1
  have x0 := hr5.frozen 0
  have x1 := hr5.frozen 1
  have HN5 := Lib.hid hn5
  have HK5 := Lib.hid hk5
  have HR5 := Lib.hid hr5
  clear hn5 hk5 hr5 t1 t3
  go_wp2_with fail
  have hkt5 : Kept S0 w (w4.setCell ⟨nb, 0, none⟩ (.slice E (D q).h xc)) := by
    refine Kept.trans_ (S' := S1 nb) ?_ HK5.out (fun i hi => .inr (by have e : i = nb := hi; omega))
    exact Kept.trans_ (S' := S1 gy) (hkd.then0 HK2.out) HK4.out (fun i hi => .inr (by have e : i = gy := hi; omega))
  obtain ⟨f1, f2, f3⟩ := fin2 (x := .slice E (D q).h xc) (y := .slice (some ⟨gy, 0, none⟩) (q + 1) yc) hkt5 HR5.out (by omega)
  have hk6 := set2 (w4.setCell ⟨nb, 0, none⟩ (.slice E (D q).h xc)) (w.heap.size + 1) (.slice E (D q).h xc) (.slice (some ⟨gy, 0, none⟩) (q + 1) yc)
  have hx5 := HX4.out.kept HK5.out (fun g hg e => HX4.out.ne_blk HN4.out (by decide) (by rw [hg]; exact congrArg some e))
  have hx6 := hx5.kept hk6 (fun g hg e => hx5.ne_blk HR5.out (by decide) (by rw [hg]; exact congrArg some e))
  have hrow6 := hk6.row (HK5.out.row HROW4.out hgn) (fun e => by have e' : gy = w.heap.size + 1 := e; omega)
  generalize ((w4.setCell ⟨nb, 0, none⟩ (.slice E (D q).h xc)).setCell ⟨w.heap.size + 1, 0, none⟩ (.slice E (D q).h xc)).setCell ⟨w.heap.size + 1, 1, none⟩ (.slice (some ⟨gy, 0, none⟩) (q + 1) yc) = w6 at *
  have hwd : w.heap.size ≤ wd.heap.size := hkd.size
  have hx7 : Own w6.drew w.heap.size 30 1 IsByte (.slice E (D q).h xc) (D q).h (byteV v) := ((hx6.mono hwd).head hle HD2.out).kept ((Kept.refl S0 w6).drew) (fun _ _ x => x)
  have hy7 : Own w6.drew w.heap.size 39 5 AnyV (.slice (some ⟨gy, 0, none⟩) (q + 1) yc) (q + 1) (deadF G q) := .inr ⟨gy, yc, _, rfl, by omega, hyn, hyc, ((Kept.refl S0 w6).drew).row hrow6 (fun x => x), fun i hi => (by
    show (if i = q * 5 + 4 then _ else fr i) = deadF G q i
    unfold deadF
    by_cases e : i = q * 5 + 4
    · rw [if_pos e, if_pos e]
    · rw [if_neg e, if_neg e]; exact HFRR.out i hi), fun _ _ => trivial⟩
  have hkf : Kept S0 w w6.drew := f1.drew
  have hmod : ModIs X w6.drew (.agg #[.slice E (D q).h xc, .slice (some ⟨gy, 0, none⟩) (q + 1) yc]) (St.dead ⟨n, v, q + 1, D⟩) := by
    have h1 : FrsOk X w6.drew (deadF G q) (q + 1) (St.dead ⟨n, v, q + 1, D⟩).D := FrsOk.dead (HFR.out.step (.of0 hkf))
    have e1 : St.dead ⟨n, v, q + 1, D⟩ = ⟨(D q).h, v, q + 1, (St.dead ⟨n, v, q + 1, D⟩).D⟩ := by
      simp only [St.dead, St.top, Nat.add_sub_cancel, if_neg (show ¬ (q + 1 = 0) by omega)]
    rw [e1]
    exact modIs_own (s := ⟨(D q).h, v, q + 1, (St.dead ⟨n, v, q + 1, D⟩).D⟩) hx7 hy7 hX (show (D q).h ≤ _ by omega) h1
  exact bodyPost_ret (v := .tuple #[.agg #[.slice E (D q).h xc, .slice (some ⟨gy, 0, none⟩) (q + 1) yc], .int .i64 0]) (by simp [results, Try.results36, go_sem, f2, f3]) rfl ⟨_, rfl, hmod, hkf⟩

theorem mdead_is (h : ModIs X w mv s) (hw : s.Wf) (hX : ∀ i, X i → i < w.heap.size) : Calls Try.prog 36 #[mv] w fun e w' =>
    ∃ mv', e = .returned (.tuple #[mv', .int .i64 s.deadE]) ∧ ModIs X w' mv' s.dead ∧ Kept S0 w w' := by
  rcases s with ⟨n, v, k, D⟩
  rcases Nat.eq_zero_or_pos k with rfl | hk0
  · obtain ⟨V, cv, Fa, cf, G, hmv, hat⟩ := h.ex
    have hmv : mv = .agg #[.slice V n cv, .slice Fa 0 cf] := hmv
    subst hmv
    exact mdead_0.mono fun e w' ⟨he, hk⟩ => ⟨_, he, h.kept0 hk, hk⟩
  · obtain ⟨q, rfl⟩ : ∃ q, k = q + 1 := ⟨k - 1, by omega⟩
    exact (mdead_some h hw hX).mono fun e w' ⟨mv', he, hm, hk⟩ => ⟨mv', he, hm, hk⟩
end
end Go.Proofs.Ytpbaojjcbpfdaaa
