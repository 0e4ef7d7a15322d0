/- The document's checker: CopyTypes, copied. No condition. -/
import Derived.Test.YtpbaojjcbpfdaaaStkQ
namespace Go.Proofs.Ytpbaojjcbpfdaaa
open Go.RowKit

/-- Cells that read as G, outside X. -/
def SlX (X : Nat → Prop) (w : World) (A : Option Addr) (n : Nat) (G : Nat → Value) : Prop := 0 < n → ∃ b o, A = some ⟨b, o, none⟩ ∧ ¬ X b ∧ ∀ i, i < n → w.cell? ⟨b, o + i, none⟩ = some (G i)

/-- The document's checker: two slices that read as its values and its frames. -/
structure ModAt (X : Nat → Prop) (w : World) (V : Option Addr) (cv : Nat) (Fa : Option Addr) (cf : Nat) (G : Nat → Value) (s : St) : Prop where
  nc : s.n ≤ cv
  kc : s.k ≤ cf
  vals : Came X w V s.n cv s.v
  frs : SlX X w Fa (s.k * 5) G
  nil : Fa = none → s.k = 0
  fr : FrsOk X w G s.k s.D

/-- The document's checker as a value. -/
structure ModIs (X : Nat → Prop) (w : World) (mv : Value) (s : St) : Prop where
  ex : ∃ V cv Fa cf G, mv = .agg #[.slice V s.n cv, .slice Fa s.k cf] ∧ ModAt X w V cv Fa cf G s

section
variable {X X' : Nat → Prop} {w w' : World} {s : St} {mv : Value}
theorem SlX.step {A : Option Addr} {n : Nat} {G : Nat → Value} (h : SlX X w A n G) (hs : Stp X X' w w') : SlX X' w' A n G := fun hn => by
  obtain ⟨b, o, e, hb, r⟩ := h hn
  have hlt : b < w.heap.size := World.block_lt_of_cell? _ _ (r 0 hn)
  exact ⟨b, o, e, fun x => (hs.sub b x).elim hb (fun h2 => by omega), fun i hi => (hs.kept.cell (p := ⟨b, o + i, none⟩) hlt hb).trans (r i hi)⟩
theorem SlX.at {A : Option Addr} {n : Nat} {G : Nat → Value} (h : SlX X w A n G) : Sl w A n G := fun hn => let ⟨b, o, e, _, r⟩ := h hn; ⟨b, o, e, r⟩
theorem ModAt.step {V Fa : Option Addr} {cv cf : Nat} {G : Nat → Value} (h : ModAt X w V cv Fa cf G s) (hs : Stp X X' w w') : ModAt X' w' V cv Fa cf G s := ⟨h.nc, h.kc, h.vals.step hs, h.frs.step hs, h.nil, h.fr.step hs⟩
theorem ModAt.kept0 {V Fa : Option Addr} {cv cf : Nat} {G : Nat → Value} (h : ModAt X w V cv Fa cf G s) (hk : Kept S0 w w') : ModAt X w' V cv Fa cf G s := h.step (.of0 hk)
theorem ModIs.step (h : ModIs X w mv s) (hs : Stp X X' w w') : ModIs X' w' mv s := by
  obtain ⟨V, cv, Fa, cf, G, h1, h2⟩ := h.ex
  exact ⟨V, cv, Fa, cf, G, h1, h2.step hs⟩
theorem ModIs.kept0 (h : ModIs X w mv s) (hk : Kept S0 w w') : ModIs X w' mv s := h.step (.of0 hk)

theorem FrsOk.one {F : Nat → Value} {k : Nat} {D : Nat → Frm} (h : FrsOk X w F k D) : ∀ i, i < k * 5 → (F i).oneCell' = true := fun i hi => by
  obtain ⟨A, c, B, e, hf, _, _⟩ := h (i / 5) (by omega)
  have h5 : i % 5 < 5 := Nat.mod_lt _ (by omega)
  have hi2 : i = i / 5 * 5 + i % 5 := by omega
  rw [hi2]
  generalize i % 5 = r at h5
  match r, h5 with
  | 0, _ => rw [Nat.add_zero, hf.f0]; rfl
  | 1, _ => rw [hf.f1]; rfl
  | 2, _ => rw [hf.f2]; rfl
  | 3, _ => rw [hf.f3]; rfl
  | 4, _ => rw [hf.f4]; rfl

/-- A checker whose values and frames are owned, and apart from X. -/
theorem modIs_own {base : Nat} {x y : Value} {G : Nat → Value} (hx : Own w base 30 1 IsByte x s.n (byteV s.v)) (hy : Own w base 39 5 AnyV y s.k G) (hX : ∀ i, X i → i < base) (hn : s.n ≤ 140737488351232) (hF : FrsOk X w G s.k s.D) : ModIs X w (.agg #[x, y]) s := by
  obtain ⟨V, cv, rfl, hc⟩ := came_own (S := X) hx (fun g hg e => by have := (hx.lt g hg).1; have := hX g e; omega) hn
  obtain ⟨V', cv', he, hnc, _, _⟩ := hx.out
  cases he
  rcases hy with ⟨rfl, h0⟩ | ⟨g, cap, fr, rfl, h2, h3, h4, h5, h6, h7⟩
  · exact ⟨V, cv, none, 0, G, by rw [h0], hnc, by omega, hc, fun h => absurd h (by omega), fun _ => h0, hF⟩
  · refine ⟨V, cv, _, cap, G, rfl, hnc, h3, hc, fun _ => ⟨g, 0, rfl, fun e => by have := hX g e; omega, fun i hi => ?_⟩, fun h => (by cases h), hF⟩
    rw [Nat.zero_add, ← h6 i hi]
    exact h5.cell (Nat.lt_of_lt_of_le hi (Nat.mul_le_mul_right _ h3))

set_option maxHeartbeats 800000 in
theorem copyT_any (A : Option Addr) (n c : Nat) (v : Nat → UInt8) (h : Came S0 w A n c v) : Calls Try.prog 24 #[.slice A n c] w fun e w' => ∃ x, e = .returned x ∧ Own w' w.heap.size 30 1 IsByte x n (byteV v) ∧ Kept S0 w w' := by
  have hle := h.le
  have hsl : Sl w A (n * 1) (byteV v) := by rw [Nat.mul_one]; exact h.at
  have h0 : A = none → n = 0 := fun e => (h.none e).1
  clear h
  go_enter Try.func24, Try.ntmps24
  go_wp2_with (at_builtin; refine wpList_append_all rfl (.tmp 4) (.tmp 5) 22 rfl w.heap.size 30 (.int .u8 0) 1 1 Try.underlying22 Try.infoT rfl (by decide) IsByte (fun u hu => ⟨0, by simpa [Value.cells] using hu⟩) (.slice none 0 0) 0 (byteV v) rfl (Own.nil _ _ _ _ _ _) A n c (byteV v) rfl hsl h0 (fun j _ => byteV_is v j) (fun _ _ => rfl) (by unfold maxLen; omega) (by omega) (Nat.le_refl _) ?_)
  intro v' w' ha
  have HA := Lib.hid ha
  have hk : Kept S0 w w' := (Kept.refl S0 w).grown ha.grown (fun k hk => by simp [Value.ownBlock] at hk)
  have HK := Lib.hid hk
  clear ha hk
  go_wp2
  go_ret
  refine ⟨_, rfl, ?_, HK.out⟩
  exact HA.out.own.congr (fun i hi => by simp [after])

set_option maxHeartbeats 3200000 in
theorem copied_any (V Fa : Option Addr) (n cv k cf : Nat) (v : Nat → UInt8) (G : Nat → Value) (hV : Came S0 w V n cv v) (hG : Sl w Fa (k * 5) G) (h0 : Fa = none → k = 0) (h1 : ∀ i, i < k * 5 → (G i).oneCell' = true) (hk : k ≤ 1000000000) :
    Calls Try.prog 38 #[.agg #[.slice V n cv, .slice Fa k cf]] w fun e w' => ∃ x y, e = .returned (.agg #[x, y]) ∧ Own w' w.heap.size 30 1 IsByte x n (byteV v) ∧ Own w' w.heap.size 39 5 AnyV y k G ∧ Kept S0 w w' := by
  go_enter Try.func38, Try.ntmps38
  go_wp2_with fail
  refine wp_region_S (fun w' => w'.cell? ⟨w.heap.size, 0, none⟩ = some (.slice V n cv) ∧ w'.cell? ⟨w.heap.size, 1, none⟩ = some (.slice Fa k cf)) [8] (by kernel_rfl) ?_
  have hbd : Blk (World.drew ((w.alloc (.cells #[.slice V n cv, .slice Fa k cf] 45)).alloc (.cells #[.slice none 0 0, .slice none 0 0] 45))) w.heap.size 45 #[.slice V n cv, .slice Fa k cf] := ((Blk.new w _ _).alloc _).drew
  have hrd : Blk (World.drew ((w.alloc (.cells #[.slice V n cv, .slice Fa k cf] 45)).alloc (.cells #[.slice none 0 0, .slice none 0 0] 45))) (w.heap.size + 1) 45 #[.slice none 0 0, .slice none 0 0] := (Blk.new1 w _ _ _).drew
  have hkd : Kept S0 w (World.drew ((w.alloc (.cells #[.slice V n cv, .slice Fa k cf] 45)).alloc (.cells #[.slice none 0 0, .slice none 0 0] 45))) := (((Kept.refl S0 w).alloc _).alloc _).drew
  generalize World.drew ((w.alloc (.cells #[.slice V n cv, .slice Fa k cf] 45)).alloc (.cells #[.slice none 0 0, .slice none 0 0] 45)) = wd at *
  have hgd := hG.slb.kept hkd (Nat.le_refl _) (fun _ x => x.elim)
  generalize hrb : w.heap.size = rb at *
  have hS : wd.cell? ⟨rb, 0, none⟩ = some (.slice V n cv) ∧ wd.cell? ⟨rb, 1, none⟩ = some (.slice Fa k cf) := ⟨hbd.cell 0, hbd.cell 1⟩
  have HV := Lib.hid (hV.kept hkd)
  have H1 := Lib.hid h1
  clear hV hG h1
  refine wpAnyS_take 0 (v := ?_) rfl (by kernel_rfl) (by kernel_rfl) (by kernel_rfl) (by kernel_rfl) (fun _ _ _ h => h) hS ⟨by rfl, ?_⟩ ?_
  rotate_left; (intro w hSw; (try dsimp only at hSw); first | (go_simp; done) | (go_simp; with_reducible rfl))
  simp only [List.getElem_toArray, List.getElem_cons_zero, Act.put, List.setIfInBounds_toArray, List.set_cons_zero, List.set_cons_succ]
  refine wpAnyS_take 1 (v := ?_) rfl (by kernel_rfl) (by kernel_rfl) (by kernel_rfl) (by kernel_rfl) (fun _ _ _ h => h) hS ⟨by rfl, ?_⟩ ?_
  rotate_left; (intro w hSw; (try dsimp only at hSw); first | (go_simp; done) | (go_simp; with_reducible rfl))
  simp only [List.getElem_toArray, List.getElem_cons_zero, List.getElem_cons_succ, Act.put, List.setIfInBounds_toArray, List.set_cons_zero, List.set_cons_succ]
  refine wpAnyS_take 3 (v := ?_) rfl (by kernel_rfl) (by kernel_rfl) (by kernel_rfl) (by kernel_rfl) (fun _ _ _ h => h) hS ⟨by rfl, ?_⟩ ?_
  rotate_left; (intro w hSw; (try dsimp only at hSw); first | (go_simp; done) | (go_simp; with_reducible rfl))
  simp only [List.getElem_toArray, List.getElem_cons_zero, List.getElem_cons_succ, Act.put, List.setIfInBounds_toArray, List.set_cons_zero, List.set_cons_succ]
  refine wpAnyS_take 4 (v := ?_) rfl (by kernel_rfl) (by kernel_rfl) (by kernel_rfl) (by kernel_rfl) (fun _ _ _ h => h) hS ⟨by rfl, ?_⟩ ?_
  rotate_left; (intro w hSw; (try dsimp only at hSw); first | (go_simp; done) | (go_simp; with_reducible rfl))
  simp only [List.getElem_toArray, List.getElem_cons_zero, List.getElem_cons_succ, Act.put, List.setIfInBounds_toArray, List.set_cons_zero, List.set_cons_succ]
  refine wpAnyS_take 5 (v := ?_) rfl (by kernel_rfl) (by kernel_rfl) (by kernel_rfl) (by kernel_rfl) (fun _ _ _ h => h) hS ⟨by rfl, ?_⟩ ?_
  rotate_left; (intro w hSw; (try dsimp only at hSw); first | (go_simp; done) | (go_simp; with_reducible rfl))
  simp only [List.getElem_toArray, List.getElem_cons_zero, List.getElem_cons_succ, Act.put, List.setIfInBounds_toArray, List.set_cons_zero, List.set_cons_succ]
  refine wpAnyS_one 2 rfl (by kernel_rfl) (fun K hK2 => ?_)
  go_simp
  go_at_call 24
  refine (copyT_any V n cv v HV.out).mono ?_
  rintro e w2 ⟨x, rfl, ho1, hk2⟩
  have hb2 := hk2.blk hbd (fun x => x)
  have hr2 := hk2.blk hrd (fun x => x)
  have hS2 : w2.cell? ⟨rb, 0, none⟩ = some (.slice V n cv) ∧ w2.cell? ⟨rb, 1, none⟩ = some (.slice Fa k cf) := ⟨hb2.cell 0, hb2.cell 1⟩
  obtain ⟨xA, xc, rfl, _, _, _⟩ := ho1.out
  have hgs := (hgd.kept hk2 (by have := hkd.size; omega) (fun _ x => x.elim)).sl
  refine hK2.out _ _ (fun _ => hS2) ?_
  clear hK2 K
  refine wpAnyS_one 6 rfl (by kernel_rfl) (fun K hK6 => ?_)
  refine step_append_all rfl (.tmp 7) (.tmp 9) 43 rfl w2.heap.size 39 (.agg #[.int .u16 0, .slice none 0 0, .slice none 0 0, .int .i64 0, .bool false]) 5 72 Try.underlying43 Try.infoFr rfl (by decide) AnyV (fun _ _ => trivial) (.slice none 0 0) 0 G rfl (Own.nil _ _ _ _ _ _) Fa k cf G rfl hgs h0 (fun _ _ => trivial) H1.out (by unfold maxLen; omega) (by omega) (Nat.le_refl _) ?_
  intro y w3 ha
  have ha : Appended w2 w3 w2.heap.size 39 5 AnyV (.slice none 0 0) y (0 + k) (after (0 * 5) G G) k := ha
  rw [Nat.zero_add] at ha
  obtain ⟨yA, yc, rfl, _, _, _⟩ := ha.own.out
  have hk3 : Kept S0 w2 w3 := (Kept.refl S0 w2).grown ha.grown (fun k hk => by simp [Value.ownBlock] at hk)
  have hb3 := hk3.blk hb2 (fun x => x)
  have hr3 := hk3.blk hr2 (fun x => x)
  have hS3 : w3.cell? ⟨rb, 0, none⟩ = some (.slice V n cv) ∧ w3.cell? ⟨rb, 1, none⟩ = some (.slice Fa k cf) := ⟨hb3.cell 0, hb3.cell 1⟩
  refine hK6.out _ _ (fun _ => hS3) ?_
  clear hK6 K
  refine wpAnyS_take 7 (v := ?_) rfl (by kernel_rfl) (by kernel_rfl) (by kernel_rfl) (by kernel_rfl) (fun _ _ _ h => h) hS3 ⟨by rfl, ?_⟩ ?_
  rotate_left; (intro w hSw; (try dsimp only at hSw); first | (go_simp; done) | (go_simp; with_reducible rfl))
  simp only [List.getElem_toArray, List.getElem_cons_zero, List.getElem_cons_succ, Act.put, List.setIfInBounds_toArray, List.set_cons_zero, List.set_cons_succ]
  have z0 := hr3.frozen 0
  have z1 := hr3.frozen 1
  have y0 := hr3.cell 0
  have y1 := hr3.cell 1
  refine wpAnyS_one 8 rfl (by kernel_rfl) (fun K hK8 => ?_)
  go_simp
  refine hK8.out _ _ (fun h => absurd (by decide) h) ?_
  clear hK8 K
  refine wpAnyS_done (by kernel_rfl) ?_ _
  have hr4 : Blk ((w3.setCell ⟨rb + 1, 0, none⟩ (.slice xA n xc)).setCell ⟨rb + 1, 1, none⟩ (.slice yA k yc)) (rb + 1) 45 #[.slice xA n xc, .slice yA k yc] := (hr3.set_ 0 _).set_ 1 _
  have hk4 : Kept (S1 (rb + 1)) w3 ((w3.setCell ⟨rb + 1, 0, none⟩ (.slice xA n xc)).setCell ⟨rb + 1, 1, none⟩ (.slice yA k yc)) := ((Kept.refl (S1 (rb + 1)) w3).setCell (p := ⟨rb + 1, 0, none⟩) (.inl rfl) _).setCell (p := ⟨rb + 1, 1, none⟩) (.inl rfl) _
  generalize (w3.setCell ⟨rb + 1, 0, none⟩ (.slice xA n xc)).setCell ⟨rb + 1, 1, none⟩ (.slice yA k yc) = w4 at *
  have e0 := hr4.cell 0
  have e1 := hr4.cell 1
  have hx4 := (ho1.kept hk3 (fun _ _ x => x)).kept hk4 (fun g hg e => ho1.ne_blk hr2 (by decide) (by rw [hg]; exact congrArg some e))
  have hy4 := ha.own.kept hk4 (fun g hg e => ha.own.ne_blk hr3 (by decide) (by rw [hg]; exact congrArg some e))
  have hsz := hkd.size
  have hk24 : Kept S0 w w4 := Kept.trans_ (S' := S1 (rb + 1)) ((hkd.then0 hk2).then0 hk3) hk4 (fun i hi => .inr (by have e : i = rb + 1 := hi; omega))
  have HX4 := Lib.hid (hx4.mono (by omega : rb ≤ wd.heap.size))
  have HY4 := Lib.hid ((hy4.congr (G := G) (fun i _ => by simp [after])).mono (by have := hk2.size; omega : rb ≤ w2.heap.size))
  have HK24 := Lib.hid hk24
  clear hx4 hy4 hk24 hk4 ha hk3 hk2 hkd hr4 hr3 hr2 hrd hb3 hb2 hbd hgd hgs ho1 hS hS2 hS3 z0 z1 y0 y1 H1 HV
  go_wp2_with fail
  exact bodyPost_ret (v := .agg #[.slice xA n xc, .slice yA k yc]) (by simp [results, Try.results38, go_sem, e0, e1]) rfl ⟨_, _, rfl, HX4.out.mono (Nat.le_of_eq hrb), HY4.out.mono (Nat.le_of_eq hrb), HK24.out⟩

theorem ModAt.copied {V Fa : Option Addr} {cv cf : Nat} {G : Nat → Value} (h : ModAt X w V cv Fa cf G s) (hk : s.k ≤ 1000000000) : Calls Try.prog 38 #[.agg #[.slice V s.n cv, .slice Fa s.k cf]] w fun e w' => ∃ x y, e = .returned (.agg #[x, y]) ∧ Own w' w.heap.size 30 1 IsByte x s.n (byteV s.v) ∧ Own w' w.heap.size 39 5 AnyV y s.k G ∧ Kept S0 w w' :=
  copied_any V Fa s.n cv s.k cf s.v G (h.vals.mono (fun _ x => x.elim)) h.frs.at h.nil h.fr.one hk
end
end Go.Proofs.Ytpbaojjcbpfdaaa
