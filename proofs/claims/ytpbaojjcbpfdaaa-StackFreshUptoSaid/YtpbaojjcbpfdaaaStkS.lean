/- The document's checker: Push, Take. No condition. -/
import Derived.Test.YtpbaojjcbpfdaaaStkR
namespace Go.Proofs.Ytpbaojjcbpfdaaa
open Go.RowKit

section
variable {X : Nat → Prop} {w w' : World} {s : St} {mv : Value}

set_option maxHeartbeats 1600000 in
theorem mpush_is (A : Option Addr) (m c : Nat) (u : Nat → UInt8) (h : ModIs X w mv s) (hX : ∀ i, X i → i < w.heap.size) (hA : Sl w A m (byteV u)) (hA0 : A = none → m = 0) (hk : s.k ≤ 1000000000) (hn : s.n + m ≤ 140737488351232) :
    Calls Try.prog 29 #[mv, .slice A m c] w fun e w' => ∃ mv', e = .returned mv' ∧ ModIs X w' mv' (s.push u m) ∧ Kept S0 w w' := by
  obtain ⟨V, cv, Fa, cf, G, rfl, hat⟩ := h.ex
  have hkd : Kept S0 w ((w.alloc (.cells #[.slice V s.n cv, .slice Fa s.k cf] 45)).alloc (.cells #[.slice none 0 0, .slice none 0 0] 45)) := ((Kept.refl S0 w).alloc _).alloc _
  have hbd : Blk ((w.alloc (.cells #[.slice V s.n cv, .slice Fa s.k cf] 45)).alloc (.cells #[.slice none 0 0, .slice none 0 0] 45)) w.heap.size 45 #[.slice V s.n cv, .slice Fa s.k cf] := (Blk.new w _ _).alloc _
  have hrd : Blk ((w.alloc (.cells #[.slice V s.n cv, .slice Fa s.k cf] 45)).alloc (.cells #[.slice none 0 0, .slice none 0 0] 45)) (w.heap.size + 1) 45 #[.slice none 0 0, .slice none 0 0] := Blk.new1 w _ _ _
  have CP := Lib.hid ((hat.kept0 hkd).copied hk)
  have HF := Lib.hid hat.fr
  have HA := Lib.hid (hA.slb.kept hkd (Nat.le_refl _) (fun _ x => x.elim))
  clear h hA hat
  go_enter Try.func29, Try.ntmps29
  go_wp2_with fail
  generalize (w.alloc (.cells #[.slice V s.n cv, .slice Fa s.k cf] 45)).alloc (.cells #[.slice none 0 0, .slice none 0 0] 45) = wd at *
  refine CP.out.mono ?_
  rintro e w2 ⟨x, y, rfl, hx, hy, hk2⟩
  obtain ⟨xA, xc, rfl, _, _, _⟩ := hx.out
  obtain ⟨yA, yc, rfl, _, _, _⟩ := hy.out
  have hb2 := hk2.blk hbd (fun x => x)
  have hr2 := hk2.blk hrd (fun x => x)
  have r0 := hb2.cell 0
  have r1 := hb2.cell 1
  have z0 := hb2.frozen 0
  have z1 := hb2.frozen 1
  have hsz := hkd.size
  have hk3 : Kept (S1 w.heap.size) w2 ((w2.setCell ⟨w.heap.size, 0, none⟩ (.slice xA s.n xc)).setCell ⟨w.heap.size, 1, none⟩ (.slice yA s.k yc)) := ((Kept.refl (S1 w.heap.size) w2).setCell (p := ⟨w.heap.size, 0, none⟩) (.inl rfl) _).setCell (p := ⟨w.heap.size, 1, none⟩) (.inl rfl) _
  have hx3 := (hx.kept hk3 (fun g hg e => hx.ne_blk hb2 (by decide) (by rw [hg]; exact congrArg some e))).mono (b := w.heap.size) hsz
  have hy3 := (hy.kept hk3 (fun g hg e => hy.ne_blk hb2 (by decide) (by rw [hg]; exact congrArg some e))).mono (b := w.heap.size) hsz
  have hk03 : Kept S0 w _ := Kept.trans_ (S' := S1 w.heap.size) (hkd.then0 hk2) hk3 (fun i hi => .inr (by have e : i = w.heap.size := hi; omega))
  have hb3 : Blk ((w2.setCell ⟨w.heap.size, 0, none⟩ (.slice xA s.n xc)).setCell ⟨w.heap.size, 1, none⟩ (.slice yA s.k yc)) w.heap.size 45 #[.slice xA s.n xc, .slice yA s.k yc] := (hb2.set_ 0 _).set_ 1 _
  have hr3 := hk3.blk hr2 (fun e => by have e' : w.heap.size + 1 = w.heap.size := e; omega)
  have hA3 : Sl ((w2.setCell ⟨w.heap.size, 0, none⟩ (.slice xA s.n xc)).setCell ⟨w.heap.size, 1, none⟩ (.slice yA s.k yc)) A (m * 1) (byteV u) := by
    rw [Nat.mul_one]
    exact ((HA.out.kept hk2 hsz (fun _ x => x.elim)).kept hk3 (Nat.le_trans hsz hk2.size) (fun i hi => by have e : i = w.heap.size := hi; omega)).sl
  have q0 := hb3.cell 0
  have HB3 := Lib.hid hb3
  have HR3 := Lib.hid hr3
  have HY3 := Lib.hid hy3
  have HK03 := Lib.hid hk03
  have hbs : w.heap.size ≤ ((w2.setCell ⟨w.heap.size, 0, none⟩ (.slice xA s.n xc)).setCell ⟨w.heap.size, 1, none⟩ (.slice yA s.k yc)).heap.size := hk03.size
  clear hb3 hr3 hy3 hk03 hk3 hb2 hr2 hkd hbd hrd hx hy hk2 CP
  go_wp2_with (at_builtin; refine wpList_append_all rfl (.tmp 8) (.tmp 9) 22 rfl w.heap.size 30 (.int .u8 0) 1 1 Try.underlying22 Try.infoT rfl (by decide) IsByte (fun u hu => ⟨0, by simpa [Value.cells] using hu⟩) (.slice xA s.n xc) s.n (byteV s.v) rfl hx3 A m c (byteV u) rfl hA3 hA0 (fun j _ => byteV_is u j) (fun _ _ => rfl) (by unfold maxLen; omega) (by omega) hbs ?_)
  intro x' w4 ha
  obtain ⟨zA, zc, rfl, _, _, _⟩ := ha.own.out
  have hxb : ∀ g, w.heap.size ≤ g → g < w.heap.size + 2 → (Value.slice xA s.n xc).ownBlock = some g → False := fun g h1 h2 e => by
    have hg : g = w.heap.size ∨ g = w.heap.size + 1 := by omega
    rcases hg with rfl | rfl
    · exact hx3.ne_blk HB3.out (by decide) e
    · exact hx3.ne_blk HR3.out (by decide) e
  have hb4 : Blk w4 w.heap.size 45 _ := (ha.grown.block _ HB3.out.lt (fun e => hxb _ (by omega) (by omega) e.symm)).trans HB3.out
  have hr4 : Blk w4 (w.heap.size + 1) 45 _ := (ha.grown.block _ HR3.out.lt (fun e => hxb _ (by omega) (by omega) e.symm)).trans HR3.out
  have hk4 : Kept S0 w w4 := HK03.out.grown ha.grown (fun g hg => .inr (hx3.lt g hg).1)
  have hy4 : Own w4 w.heap.size 39 5 AnyV (.slice yA s.k yc) s.k G := HY3.out.kept ((Kept.refl (fun i => (Value.slice xA s.n xc).ownBlock = some i) _).grown ha.grown (fun g hg => .inl hg)) (fun g hg e => own_types hx3 HY3.out (by decide) g e hg)
  have z4 := hb4.frozen 0
  have x4 := hb4.cell 0
  have x41 := hb4.cell 1
  have zr0 := hr4.frozen 0
  have zr1 := hr4.frozen 1
  have cr0 := hr4.cell 0
  have cr1 := hr4.cell 1
  have HB4 := Lib.hid hb4
  have HR4 := Lib.hid hr4
  have HK4 := Lib.hid hk4
  have HY4 := Lib.hid hy4
  have HAP := Lib.hid ha
  clear hb4 hr4 hk4 hy4 ha hx3 hA3 q0 HB3 HR3 HY3 HK03 hbs hxb r0 r1 z0 z1
  go_wp2_with fail
  have hkf : Kept (S2 w.heap.size (w.heap.size + 1)) w4 (((w4.setCell ⟨w.heap.size, 0, none⟩ (.slice zA (s.n + m) zc)).setCell ⟨w.heap.size + 1, 0, none⟩ (.slice zA (s.n + m) zc)).setCell ⟨w.heap.size + 1, 1, none⟩ (.slice yA s.k yc)) :=
    (((Kept.refl (S2 w.heap.size (w.heap.size + 1)) w4).setCell (p := ⟨w.heap.size, 0, none⟩) (.inl (.inl rfl)) _).setCell (p := ⟨w.heap.size + 1, 0, none⟩) (.inl (.inr rfl)) _).setCell (p := ⟨w.heap.size + 1, 1, none⟩) (.inl (.inr rfl)) _
  have hrf : Blk (((w4.setCell ⟨w.heap.size, 0, none⟩ (.slice zA (s.n + m) zc)).setCell ⟨w.heap.size + 1, 0, none⟩ (.slice zA (s.n + m) zc)).setCell ⟨w.heap.size + 1, 1, none⟩ (.slice yA s.k yc)) (w.heap.size + 1) 45 #[.slice zA (s.n + m) zc, .slice yA s.k yc] :=
    ((HR4.out.far (p := ⟨w.heap.size, 0, none⟩) (by simp) _).set_ 0 _).set_ 1 _
  generalize ((w4.setCell ⟨w.heap.size, 0, none⟩ (.slice zA (s.n + m) zc)).setCell ⟨w.heap.size + 1, 0, none⟩ (.slice zA (s.n + m) zc)).setCell ⟨w.heap.size + 1, 1, none⟩ (.slice yA s.k yc) = wf at *
  have e0 := hrf.cell 0
  have e1 := hrf.cell 1
  have hz := HAP.out.own.kept hkf (fun g hg e => by
    rcases e with e | e
    · exact HAP.out.own.ne_blk HB4.out (by decide) (by rw [hg, e])
    · exact HAP.out.own.ne_blk HR4.out (by decide) (by rw [hg, e]))
  have hy := HY4.out.kept hkf (fun g hg e => by
    rcases e with e | e
    · exact HY4.out.ne_blk HB4.out (by decide) (by rw [hg, e])
    · exact HY4.out.ne_blk HR4.out (by decide) (by rw [hg, e]))
  have hkt : Kept S0 w wf := Kept.trans_ (S' := S2 w.heap.size (w.heap.size + 1)) HK4.out hkf (fun i hi => .inr (by rcases hi with e | e <;> omega))
  have hmod : ModIs X wf (.agg #[.slice zA (s.n + m) zc, .slice yA s.k yc]) (s.push u m) := modIs_own (s := s.push u m) (hz.congr (fun i _ => by rw [after_byteV]; rfl)) hy hX hn (HF.out.step (.of0 hkt))
  exact bodyPost_ret (v := .agg #[.slice zA (s.n + m) zc, .slice yA s.k yc]) (by simp [results, Try.results29, go_sem, e0, e1]) rfl ⟨_, rfl, hmod, hkt⟩
end
end Go.Proofs.Ytpbaojjcbpfdaaa
