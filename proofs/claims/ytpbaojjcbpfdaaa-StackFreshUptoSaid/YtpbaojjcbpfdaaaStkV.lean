/- The document's checker: Take, TakeOf, TakeAll in terms of the plain model. No condition. -/
import Derived.Test.YtpbaojjcbpfdaaaStkU
namespace Go.Proofs.Ytpbaojjcbpfdaaa
open Go.RowKit

section
variable {X : Nat → Prop} {w w' : World} {s : St} {mv : Value}

theorem mtake_is (h : ModIs X w mv s) (hw : s.Wf) (hX : ∀ i, X i → i < w.heap.size) : Calls Try.prog 30 #[mv] w fun e w' =>
    ∃ mv', e = .returned (.tuple #[mv', .int .u8 (s.takeT.toNat : Int), .int .i64 s.takeE]) ∧ ModIs X w' mv' (s.withN s.takeN) ∧ Kept S0 w w' := by
  obtain ⟨V, cv, Fa, cf, G, rfl, hat⟩ := h.ex
  rcases s with ⟨n, v, k, D⟩
  rcases Nat.eq_zero_or_pos k with rfl | hk0
  · exact mtake_0.mono fun e w' ⟨he, hk⟩ => ⟨_, he, h.kept0 hk, hk⟩
  · obtain ⟨q, rfl⟩ : ∃ q, k = q + 1 := ⟨k - 1, by omega⟩
    have hq : q + 1 ≤ 1000000000 := hw.k
    have hn : n ≤ 140737488351232 := hw.n
    obtain ⟨b, o, A, c, B, e, rfl, hf, _, _, hc⟩ := hat.top rfl
    by_cases hh : n = (D q).h
    · obtain ⟨f1, f2, f3⟩ := take_eqs1 n q v D hh
      have hf' : FrAt G q (D q).op (.slice A (D q).n c) (.slice B (D q).m e) n (D q).dead := by rw [hh]; exact hf
      refine (mtake_floor hf' hc ⟨_, _, _, rfl⟩ ⟨_, _, _, rfl⟩ (by omega)).mono fun e w' ⟨he, hk⟩ => ⟨.agg #[.slice V n cv, .slice (some ⟨b, o, none⟩) (q + 1) cf], by rw [he, f1, f2]; rfl, ?_, hk⟩
      rw [f3]
      exact h.kept0 hk
    · obtain ⟨j, rfl⟩ : ∃ j, n = j + 1 := by
        have : (D q).h ≤ n := hw.le q (Nat.lt_succ_self q)
        exact ⟨n - 1, by omega⟩
      obtain ⟨f1, f2, f3⟩ := take_eqs2 j q v D hh
      refine (mtake_value hat hX hn hq hh).mono fun e w' ⟨mv', he, hm, hk⟩ => ⟨mv', by rw [he, f1, f2], ?_, hk⟩
      rw [f3]
      exact hm

theorem St.takeE_or (s : St) : s.takeE = 0 ∨ s.takeE = 5 := by
  unfold St.takeE
  repeat (first | exact .inl rfl | exact .inr rfl | split)

/-- X, and the call's own boxes. -/
def XL (X : Nat → Prop) (b n : Nat) : Nat → Prop := fun i => X i ∨ (b ≤ i ∧ i < b + n)
theorem loc_in (n : Nat) (hk : Kept S0 w w') : Stp X (XL X w.heap.size n) w w' := ⟨hk.of0 _, fun _ hi => hi.elim .inl (fun h => .inr h.1)⟩
theorem loc_out {S : Nat → Prop} {b n : Nat} (hk : Kept S w w') (hs : ∀ i, S i → b ≤ i ∧ i < b + n) : Stp (XL X b n) X w w' := ⟨hk.mono (fun i hi => .inr (hs i hi)), fun _ hi => .inl (.inl hi)⟩
theorem set2 (W : World) (b : Nat) (x y : Value) : Kept (S1 b) W ((W.setCell ⟨b, 0, none⟩ x).setCell ⟨b, 1, none⟩ y) := ((Kept.refl (S1 b) W).setCell (p := ⟨b, 0, none⟩) (.inl rfl) _).setCell (p := ⟨b, 1, none⟩) (.inl rfl) _

set_option maxHeartbeats 3200000 in
theorem mtakeOf_is (t : UInt8) (h : ModIs X w mv s) (hw : s.Wf) (hX : ∀ i, X i → i < w.heap.size) : Calls Try.prog 31 #[mv, .int .u8 (t.toNat : Int)] w fun e w' =>
    ∃ mv', e = .returned (.tuple #[mv', .int .u8 ((s.ofT t).toNat : Int), .int .i64 (s.ofE t)]) ∧ ModIs X w' mv' (s.withN (s.ofN t)) ∧ Kept S0 w w' := by
  obtain ⟨V, cv, Fa, cf, G, rfl, hat⟩ := h.ex
  have hkd : Kept S0 w ((w.alloc (.cells #[.slice V s.n cv, .slice Fa s.k cf] 45)).alloc (.cells #[.slice none 0 0, .slice none 0 0] 45)) := ((Kept.refl S0 w).alloc _).alloc _
  have hbd : Blk ((w.alloc (.cells #[.slice V s.n cv, .slice Fa s.k cf] 45)).alloc (.cells #[.slice none 0 0, .slice none 0 0] 45)) w.heap.size 45 #[.slice V s.n cv, .slice Fa s.k cf] := (Blk.new w _ _).alloc _
  have hrd : Blk ((w.alloc (.cells #[.slice V s.n cv, .slice Fa s.k cf] 45)).alloc (.cells #[.slice none 0 0, .slice none 0 0] 45)) (w.heap.size + 1) 45 #[.slice none 0 0, .slice none 0 0] := Blk.new1 w _ _ _
  have CP := Lib.hid (mtake_is (h.step (loc_in 2 hkd)) hw (fun i hi => by
    rcases hi with e | e
    · exact Nat.lt_of_lt_of_le (hX i e) hkd.size
    · simp; omega))
  have HH := Lib.hid h
  clear h hat
  go_enter Try.func31, Try.ntmps31
  go_wp2_with fail
  generalize (w.alloc (.cells #[.slice V s.n cv, .slice Fa s.k cf] 45)).alloc (.cells #[.slice none 0 0, .slice none 0 0] 45) = wd at *
  refine CP.out.mono ?_
  rintro e w2 ⟨mv', rfl, hm2, hk2⟩
  obtain ⟨V2, cv2, Fa2, cf2, G2, rfl, _⟩ := hm2.ex
  have hk3 := hk2.alloc (.cells #[.slice V2 (s.withN s.takeN).n cv2, .slice Fa2 (s.withN s.takeN).k cf2] 45)
  have hm3 := hm2.kept0 ((Kept.refl S0 w2).alloc (.cells #[.slice V2 (s.withN s.takeN).n cv2, .slice Fa2 (s.withN s.takeN).k cf2] 45))
  have hb3 := hk3.blk hbd (fun x => x)
  have hr3 := hk3.blk hrd (fun x => x)
  have b0 := hb3.cell 0
  have b1 := hb3.cell 1
  have r0 := hr3.cell 0
  have r1 := hr3.cell 1
  have z0 := hr3.frozen 0
  have z1 := hr3.frozen 1
  have HK3 := Lib.hid (hkd.then0 hk3)
  have HR3 := Lib.hid hr3
  have HM3 := Lib.hid hm3
  clear hbd hrd hkd hk2 hk3 hb3 hr3 hm2 hm3 CP
  have HO := Lib.hid (fun (x y : Value) => loc_out (X := X) (b := w.heap.size) (n := 2) (set2 (w2.alloc (.cells #[.slice V2 (s.withN s.takeN).n cv2, .slice Fa2 (s.withN s.takeN).k cf2] 45)) (w.heap.size + 1) x y) (fun i hi => by have e : i = w.heap.size + 1 := hi; omega))
  rcases s.takeE_or with hE | hE
  · rw [hE]
    by_cases hf : s.fits t
    · obtain ⟨e1, e2, e3⟩ := s.of_ok t hE hf
      have hb : (((s.takeT.toNat : Int) != (t.toNat : Int)) = false) ∨ (((s.takeT.toNat : Int) != (t.toNat : Int)) = true ∧ ((s.takeT.toNat : Int) != 0) = false) ∨ (((s.takeT.toNat : Int) != (t.toNat : Int)) = true ∧ ((s.takeT.toNat : Int) != 0) = true ∧ ((t.toNat : Int) != 0) = false) := by
        by_cases h1 : s.takeT = t
        · exact .inl (by rw [h1]; simp)
        · have e1 : ((s.takeT.toNat : Int) != (t.toNat : Int)) = true := bne_iff_ne.2 (fun e => h1 (UInt8.toNat_inj.1 (by omega)))
          by_cases h2 : s.takeT = 0
          · exact .inr (.inl ⟨e1, by rw [h2]; rfl⟩)
          · have e2 : ((s.takeT.toNat : Int) != 0) = true := bne_iff_ne.2 (fun e => h2 (UInt8.toNat_inj.1 (by rw [UInt8.toNat_zero]; omega)))
            rcases hf with h | h | h
            · exact absurd h h1
            · exact absurd h h2
            · exact .inr (.inr ⟨e1, e2, by rw [h]; rfl⟩)
      obtain ⟨f1, f2, f3⟩ := fin2 (x := .slice V2 (s.withN s.takeN).n cv2) (y := .slice Fa2 (s.withN s.takeN).k cf2) HK3.out HR3.out (by omega)
      have HE := Lib.hid (And.intro e1 (And.intro e2 e3))
      have HF1 := Lib.hid f1
      clear hE e1 e2 e3 hf f1
      rcases hb with g1 | ⟨g1, g2⟩ | ⟨g1, g2, g3⟩
      all_goals go_wp2_with fail
      all_goals exact bodyPost_ret (v := .tuple #[.agg #[.slice V2 (s.withN s.takeN).n cv2, .slice Fa2 (s.withN s.takeN).k cf2], .int .u8 (s.takeT.toNat : Int), .int .i64 0]) (by simp [results, Try.results31, go_sem, f2, f3]) rfl ⟨_, by rw [HE.out.1, HE.out.2.1], by rw [HE.out.2.2]; exact HM3.out.step (HO.out _ _), HF1.out⟩
    · obtain ⟨e1, e2, e3⟩ := s.of_bad t hE hf
      have g1 : ((s.takeT.toNat : Int) != (t.toNat : Int)) = true := bne_iff_ne.2 (fun e => hf (.inl (UInt8.toNat_inj.1 (by omega))))
      have g2 : ((s.takeT.toNat : Int) != 0) = true := bne_iff_ne.2 (fun e => hf (.inr (.inl (UInt8.toNat_inj.1 (by rw [UInt8.toNat_zero]; omega)))))
      have g3 : ((t.toNat : Int) != 0) = true := bne_iff_ne.2 (fun e => hf (.inr (.inr (UInt8.toNat_inj.1 (by rw [UInt8.toNat_zero]; omega)))))
      obtain ⟨f1, f2, f3⟩ := fin2 (x := .slice V s.n cv) (y := .slice Fa s.k cf) HK3.out HR3.out (by omega)
      have HE := Lib.hid (And.intro e1 (And.intro e2 e3))
      have HF1 := Lib.hid f1
      clear hE e1 e2 e3 hf f1
      go_wp2_with fail
      exact bodyPost_ret (v := .tuple #[.agg #[.slice V s.n cv, .slice Fa s.k cf], .int .u8 0, .int .i64 5]) (by simp [results, Try.results31, go_sem, f2, f3]) rfl ⟨_, by rw [HE.out.1, HE.out.2.1]; rfl, by rw [HE.out.2.2]; exact HH.out.kept0 HF1.out, HF1.out⟩
  · rw [hE]
    obtain ⟨e1, e2, e3⟩ := s.of_ref t hE
    obtain ⟨f1, f2, f3⟩ := fin2 (x := .slice V s.n cv) (y := .slice Fa s.k cf) HK3.out HR3.out (by omega)
    have HE := Lib.hid (And.intro e1 (And.intro e2 e3))
    have HF1 := Lib.hid f1
    clear hE e1 e2 e3 f1
    go_wp2_with fail
    exact bodyPost_ret (v := .tuple #[.agg #[.slice V s.n cv, .slice Fa s.k cf], .int .u8 0, .int .i64 5]) (by simp [results, Try.results31, go_sem, f2, f3]) rfl ⟨_, by rw [HE.out.1, HE.out.2.1]; rfl, by rw [HE.out.2.2]; exact HH.out.kept0 HF1.out, HF1.out⟩
end
end Go.Proofs.Ytpbaojjcbpfdaaa
