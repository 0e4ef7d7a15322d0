/- The document's checker: Take, in terms of the plain model. No condition. -/
import Derived.Test.YtpbaojjcbpfdaaaStkT
namespace Go.Proofs.Ytpbaojjcbpfdaaa
open Go.RowKit

section
variable {X : Nat → Prop} {w w' : World} {s : St} {mv : Value}

/-- A list's head is its owner's too. -/
theorem Own.cut {w : World} {base e size n j c : Nat} {Q : Value → Prop} {A : Option Addr} {F : Nat → Value} (h : Own w base e size Q (.slice A n c) n F) (hj : j ≤ n) (h0 : 0 < n := by omega) : Own w base e size Q (.slice A j c) j F := by
  rcases h with ⟨h, h1⟩ | ⟨g, cap, fr, h, h2, h3, h4, h5, h6, h7⟩
  · omega
  · cases h
    exact .inr ⟨g, c, fr, rfl, h2, by omega, h4, h5, fun i hi => h6 i (Nat.lt_of_lt_of_le hi (Nat.mul_le_mul_right _ hj)), h7⟩

/-- The uppermost frame's cells. -/
theorem ModAt.top {V Fa : Option Addr} {cv cf q : Nat} {G : Nat → Value} (h : ModAt X w V cv Fa cf G s) (hk : s.k = q + 1) : ∃ b o A c B e, Fa = some ⟨b, o, none⟩ ∧ FrAt G q (s.D q).op (.slice A (s.D q).n c) (.slice B (s.D q).m e) (s.D q).h (s.D q).dead ∧ Came X w A (s.D q).n c (s.D q).u ∧ Came X w B (s.D q).m e (s.D q).t ∧ ∀ i, i < s.k * 5 → w.cell? ⟨b, o + i, none⟩ = some (G i) := by
  obtain ⟨b, o, e, _, hc⟩ := h.frs (by omega)
  obtain ⟨A, c, B, e', hf, hA, hB⟩ := h.fr q (by omega)
  exact ⟨b, o, A, c, B, e', e, hf, hA, hB, hc⟩

set_option maxHeartbeats 1600000 in
theorem mtake_floor {V : Option Addr} {cv cf q n b o : Nat} {G : Nat → Value} {op : Int} {x y : Value} {dead : Bool} (hf : FrAt G q op x y n dead) (hc : ∀ i, i < (q + 1) * 5 → w.cell? ⟨b, o + i, none⟩ = some (G i)) (hx : ∃ A n c, x = .slice A n c) (hy : ∃ A n c, y = .slice A n c) (hq : q ≤ 1000000000) :
    Calls Try.prog 30 #[.agg #[.slice V n cv, .slice (some ⟨b, o, none⟩) (q + 1) cf]] w fun e w' => e = .returned (.tuple #[.agg #[.slice V n cv, .slice (some ⟨b, o, none⟩) (q + 1) cf], .int .u8 0, .int .i64 (if dead = true then 0 else 5)]) ∧ Kept S0 w w' := by
  obtain ⟨A, an, ac, rfl⟩ := hx
  obtain ⟨B, bn, bc, rfl⟩ := hy
  have hkd : Kept S0 w ((w.alloc (.cells #[.slice V n cv, .slice (some ⟨b, o, none⟩) (q + 1) cf] 45)).alloc (.cells #[.slice none 0 0, .slice none 0 0] 45)) := ((Kept.refl S0 w).alloc _).alloc _
  have hcd : ∀ i, i < (q + 1) * 5 → ((w.alloc (.cells #[.slice V n cv, .slice (some ⟨b, o, none⟩) (q + 1) cf] 45)).alloc (.cells #[.slice none 0 0, .slice none 0 0] 45)).cell? ⟨b, o + i, none⟩ = some (G i) := fun i hi => (hkd.cell (p := ⟨b, o + i, none⟩) (World.block_lt_of_cell? _ _ (hc i hi)) (fun x => x)).trans (hc i hi)
  have f0 := hcd (q * 5) (by omega)
  have f1 := hcd (q * 5 + 1) (by omega)
  have f2 := hcd (q * 5 + 2) (by omega)
  have f3 := hcd (q * 5 + 3) (by omega)
  have f4 := hcd (q * 5 + 4) (by omega)
  rw [hf.f0] at f0
  rw [hf.f1, ← Nat.add_assoc] at f1
  rw [hf.f2, ← Nat.add_assoc] at f2
  rw [hf.f3, ← Nat.add_assoc] at f3
  rw [hf.f4, ← Nat.add_assoc] at f4
  have u1 : IntKind.i64.wrap ((q : Int) + 1 - 1) = (q : Int) := by rw [IntWalk.i64_in _ (by omega)]; omega
  have u2 : (q : Int) < (q : Int) + 1 := by omega
  have u3 : IntKind.i64.wrap (q : Int) = (q : Int) := IntWalk.i64_in _ (by omega)
  have b1 : ((q : Int) + 1 == 0) = false := beq_eq_false_iff_ne.2 (by omega)
  have b2 : ((n : Int) == (n : Int)) = true := beq_self_eq_true _
  clear hf hcd hc hkd
  go_enter Try.func30, Try.ntmps30
  cases dead with
  | true =>
    go_wp2_with fail
    exact bodyPost_ret (v := .tuple #[.agg #[.slice V n cv, .slice (some ⟨b, o, none⟩) (q + 1) cf], .int .u8 0, .int .i64 0]) (by simp [results, Try.results30, go_sem]) rfl ⟨rfl, (by repeat (first | exact Kept.refl _ _ | assumption | refine Kept.drew ?_ | refine Kept.alloc ?_ _ | refine Kept.setCell ?_ (.inr (by first | exact Nat.le_refl _ | (simp; done) | omega | (simp; omega))) _))⟩
  | false =>
    go_wp2_with fail
    exact bodyPost_ret (v := .tuple #[.agg #[.slice V n cv, .slice (some ⟨b, o, none⟩) (q + 1) cf], .int .u8 0, .int .i64 5]) (by simp [results, Try.results30, go_sem]) rfl ⟨rfl, (by repeat (first | exact Kept.refl _ _ | assumption | refine Kept.drew ?_ | refine Kept.alloc ?_ _ | refine Kept.setCell ?_ (.inr (by first | exact Nat.le_refl _ | (simp; done) | omega | (simp; omega))) _))⟩

set_option maxHeartbeats 3200000 in
theorem mtake_value {V : Option Addr} {cv cf q j b o : Nat} {v : Nat → UInt8} {D : Nat → Frm} {G : Nat → Value} (hat : ModAt X w V cv (some ⟨b, o, none⟩) cf G ⟨j + 1, v, q + 1, D⟩) (hX : ∀ i, X i → i < w.heap.size) (hn : j + 1 ≤ 140737488351232) (hq : q + 1 ≤ 1000000000) (hne : ¬ j + 1 = (D q).h) :
    Calls Try.prog 30 #[.agg #[.slice V (j + 1) cv, .slice (some ⟨b, o, none⟩) (q + 1) cf]] w fun e w' => ∃ mv', e = .returned (.tuple #[mv', .int .u8 ((v j).toNat : Int), .int .i64 0]) ∧ ModIs X w' mv' ⟨j, v, q + 1, D⟩ ∧ Kept S0 w w' := by
  obtain ⟨b2, o2, A, ac, B, bc, he, hf, _, _, hc⟩ := hat.top rfl
  cases he
  have hc : ∀ i, i < (q + 1) * 5 → w.cell? ⟨b, o + i, none⟩ = some (G i) := hc
  have hf : FrAt G q (D q).op (.slice A (D q).n ac) (.slice B (D q).m bc) (D q).h (D q).dead := hf
  have hkd : Kept S0 w ((w.alloc (.cells #[.slice V (j + 1) cv, .slice (some ⟨b, o, none⟩) (q + 1) cf] 45)).alloc (.cells #[.slice none 0 0, .slice none 0 0] 45)) := ((Kept.refl S0 w).alloc _).alloc _
  have hrd : Blk ((w.alloc (.cells #[.slice V (j + 1) cv, .slice (some ⟨b, o, none⟩) (q + 1) cf] 45)).alloc (.cells #[.slice none 0 0, .slice none 0 0] 45)) (w.heap.size + 1) 45 #[.slice none 0 0, .slice none 0 0] := Blk.new1 w _ _ _
  have hbd : Blk ((w.alloc (.cells #[.slice V (j + 1) cv, .slice (some ⟨b, o, none⟩) (q + 1) cf] 45)).alloc (.cells #[.slice none 0 0, .slice none 0 0] 45)) w.heap.size 45 #[.slice V (j + 1) cv, .slice (some ⟨b, o, none⟩) (q + 1) cf] := (Blk.new w _ _).alloc _
  have hcd : ∀ i, i < (q + 1) * 5 → ((w.alloc (.cells #[.slice V (j + 1) cv, .slice (some ⟨b, o, none⟩) (q + 1) cf] 45)).alloc (.cells #[.slice none 0 0, .slice none 0 0] 45)).cell? ⟨b, o + i, none⟩ = some (G i) := fun i hi => (hkd.cell (p := ⟨b, o + i, none⟩) (World.block_lt_of_cell? _ _ (hc i hi)) (fun x => x)).trans (hc i hi)
  have f0 := hcd (q * 5) (by omega)
  have f1 := hcd (q * 5 + 1) (by omega)
  have f2 := hcd (q * 5 + 2) (by omega)
  have f3 := hcd (q * 5 + 3) (by omega)
  have f4 := hcd (q * 5 + 4) (by omega)
  rw [hf.f0] at f0
  rw [hf.f1, ← Nat.add_assoc] at f1
  rw [hf.f2, ← Nat.add_assoc] at f2
  rw [hf.f3, ← Nat.add_assoc] at f3
  rw [hf.f4, ← Nat.add_assoc] at f4
  have u1 : IntKind.i64.wrap ((q : Int) + 1 - 1) = (q : Int) := by rw [IntWalk.i64_in _ (by omega)]; omega
  have u2 : (q : Int) < (q : Int) + 1 := by omega
  have u3 : IntKind.i64.wrap (q : Int) = (q : Int) := IntWalk.i64_in _ (by omega)
  have u4 : IntKind.i64.wrap ((j : Int) + 1 - 1) = (j : Int) := by rw [IntWalk.i64_in _ (by omega)]; omega
  have u5 : (j : Int) < (j : Int) + 1 := by omega
  have u6 : IntKind.i64.wrap (j : Int) = (j : Int) := IntWalk.i64_in _ (by omega)
  have b1 : ((q : Int) + 1 == 0) = false := beq_eq_false_iff_ne.2 (by omega)
  have b2 : ((j : Int) + 1 == ((D q).h : Int)) = false := beq_eq_false_iff_ne.2 (by omega)
  obtain ⟨vb, vo, hV, _, hvc⟩ := hat.vals.sl (Nat.succ_pos j)
  subst hV
  have hvj : w.cell? ⟨vb, vo + j, none⟩ = some (.int .u8 ((v j).toNat : Int)) := hvc j (Nat.lt_succ_self j)
  have hk3 : Kept S0 w (((w.alloc (.cells #[.slice (some ⟨vb, vo, none⟩) (j + 1) cv, .slice (some ⟨b, o, none⟩) (q + 1) cf] 45)).alloc (.cells #[.slice none 0 0, .slice none 0 0] 45)).alloc (.cells #[.int .u16 (D q).op, .slice A (D q).n ac, .slice B (D q).m bc, .int .i64 ((D q).h : Int), .bool (D q).dead] 39)) := hkd.alloc _
  have hb3 : Blk (((w.alloc (.cells #[.slice (some ⟨vb, vo, none⟩) (j + 1) cv, .slice (some ⟨b, o, none⟩) (q + 1) cf] 45)).alloc (.cells #[.slice none 0 0, .slice none 0 0] 45)).alloc (.cells #[.int .u16 (D q).op, .slice A (D q).n ac, .slice B (D q).m bc, .int .i64 ((D q).h : Int), .bool (D q).dead] 39)) w.heap.size 45 _ := hbd.alloc _
  have hr3 : Blk (((w.alloc (.cells #[.slice (some ⟨vb, vo, none⟩) (j + 1) cv, .slice (some ⟨b, o, none⟩) (q + 1) cf] 45)).alloc (.cells #[.slice none 0 0, .slice none 0 0] 45)).alloc (.cells #[.int .u16 (D q).op, .slice A (D q).n ac, .slice B (D q).m bc, .int .i64 ((D q).h : Int), .bool (D q).dead] 39)) (w.heap.size + 1) 45 _ := hrd.alloc _
  have hvd := (hk3.cell (p := ⟨vb, vo + j, none⟩) (World.block_lt_of_cell? _ _ hvj) (fun x => x)).trans hvj
  have CP := Lib.hid ((hat.kept0 hk3).copied hq)
  have HFR := Lib.hid hat.fr
  have HK3 := Lib.hid hk3
  have HR3 := Lib.hid hr3
  clear hf hcd hc hvc hvj hat hk3 hb3 hr3 hkd hrd hbd
  go_enter Try.func30, Try.ntmps30
  go_wp2_with fail
  refine CP.out.mono ?_
  rintro e w4 ⟨x, y, rfl, hx, hy, hk4⟩
  have hx : Own w4 _ 30 1 IsByte x (j + 1) (byteV v) := hx
  have hy : Own w4 _ 39 5 AnyV y (q + 1) G := hy
  obtain ⟨xA, xc, rfl, _, _, _⟩ := hx.out
  obtain ⟨yA, yc, rfl, _, _, _⟩ := hy.out
  obtain ⟨E, rr1, d1⟩ := run_cut_h (P := Try.prog) 22 30 Try.underlying22 Try.sizeT xA (j + 1) xc .i64 (j : Int) j rfl (by omega)
  have hk5 := hk4.alloc (.cells #[.slice E j xc, .slice yA (q + 1) yc] 45)
  have hk6 := (Kept.refl S0 w4).alloc (.cells #[.slice E j xc, .slice yA (q + 1) yc] 45)
  have hr5 := hk5.blk HR3.out (fun x => x)
  have r0 := hr5.cell 0
  have r1 := hr5.cell 1
  have y0 := hr5.frozen 0
  have y1 := hr5.frozen 1
  have HX := Lib.hid (hx.kept hk6 (fun _ _ x => x))
  have HY := Lib.hid (hy.kept hk6 (fun _ _ x => x))
  have HK5 := Lib.hid (HK3.out.then0 hk5)
  have HR5 := Lib.hid hr5
  have HD1 := Lib.hid d1
  clear hx hy hk5 hk6 hr5 d1 hk4 CP HK3 HR3 f0 f1 f2 f3 f4 hvd
  go_wp2_with fail
  obtain ⟨f1, f2, f3⟩ := fin2 (x := .slice E j xc) (y := .slice yA (q + 1) yc) HK5.out HR5.out (by omega)
  have hkw : Kept (S1 (w.heap.size + 1)) (w4.alloc (.cells #[.slice E j xc, .slice yA (q + 1) yc] 45)) (((w4.alloc (.cells #[.slice E j xc, .slice yA (q + 1) yc] 45)).setCell ⟨w.heap.size + 1, 0, none⟩ (.slice E j xc)).setCell ⟨w.heap.size + 1, 1, none⟩ (.slice yA (q + 1) yc)) := ((Kept.refl (S1 (w.heap.size + 1)) _).setCell (p := ⟨w.heap.size + 1, 0, none⟩) (.inl rfl) _).setCell (p := ⟨w.heap.size + 1, 1, none⟩) (.inl rfl) _
  have hxf := HX.out.kept hkw (fun g hg e => HX.out.ne_blk HR5.out (by decide) (by rw [hg]; exact congrArg some e))
  have hyf := HY.out.kept hkw (fun g hg e => HY.out.ne_blk HR5.out (by decide) (by rw [hg]; exact congrArg some e))
  have hE : E = xA := by
    rw [HD1.out]
    split
    · rfl
    · rcases hxf with ⟨h, h0⟩ | ⟨g, cap, fr, h, _⟩
      · omega
      · cases h; simp [Addr.add_lit]
  subst hE
  have hle : w.heap.size ≤ (((w.alloc (.cells #[.slice (some ⟨vb, vo, none⟩) (j + 1) cv, .slice (some ⟨b, o, none⟩) (q + 1) cf] 45)).alloc (.cells #[.slice none 0 0, .slice none 0 0] 45)).alloc (.cells #[.int .u16 (D q).op, .slice A (D q).n ac, .slice B (D q).m bc, .int .i64 ((D q).h : Int), .bool (D q).dead] 39)).heap.size := by simp; omega
  have hxj : Own _ w.heap.size 30 1 IsByte (.slice E j xc) j (byteV v) := (hxf.mono hle).cut (by omega)
  have hmod : ModIs X _ (.agg #[.slice E j xc, .slice yA (q + 1) yc]) ⟨j, v, q + 1, D⟩ := modIs_own (s := ⟨j, v, q + 1, D⟩) hxj (hyf.mono hle) hX (show j ≤ _ by omega) (HFR.out.step (.of0 f1))
  exact bodyPost_ret (v := .tuple #[.agg #[.slice E j xc, .slice yA (q + 1) yc], .int .u8 ((v j).toNat : Int), .int .i64 0]) (by simp [results, Try.results30, go_sem, f2, f3]) rfl ⟨_, rfl, hmod, f1⟩
end
end Go.Proofs.Ytpbaojjcbpfdaaa
