/- Contracts of Types over any lists, of SameFrame, of Same where both are one. No condition. -/
import Derived.Test.YtpbaojjcbpfdaaaStkCl
namespace Go.Proofs.Ytpbaojjcbpfdaaa
open Go.RowKit

set_option maxHeartbeats 1600000 in
theorem types_some (A B : Option Addr) (n m c d : Nat) (v u : Nat → UInt8) (w : World) (hA : Sl w A n (byteV v)) (hB : Sl w B m (byteV u)) (hn : n ≤ 9223372036854775807) :
    Calls Try.prog 14 #[.slice A n c, .slice B m d] w fun e w' => (∃ b, e = .returned (.bool b)) ∧ Kept S0 w w' := by
  by_cases hnm : n = m
  · subst hnm
    go_enter Try.func14, Try.ntmps14
    go_wp2
    go_loopw [5] (fun i wr => ∃ k : Nat, k ≤ n ∧ i = .int .i64 (k : Int) ∧ ∃ q, wr = w.drewN q) (fun i _ => n - (intOf i).toNat)
    case atStart => exact ⟨0, by omega, rfl, 0, rfl⟩
    case round =>
      obtain ⟨k, hk, rfl, q, rfl⟩ := hrel
      by_cases hlt : k < n
      · obtain ⟨b1, o1, rfl, h1⟩ := hA (by omega)
        obtain ⟨b2, o2, rfl, h2⟩ := hB (by omega)
        have d1 := h1 k hlt
        have d2 := h2 k hlt
        simp only [byteV] at d1 d2
        clear hA hB h1 h2
        cases hb : (((v k).toNat : Int) != ((u k).toNat : Int)) with
        | false =>
          go_wp2
          go_quiet (fail)
          go_wp2
          go_roundw
          case rel => exact ⟨k + 1, by omega, by go_num, _, rfl⟩
          case measure => simp [intOf]; omega
        | true =>
          go_wp2
          go_quiet (fail)
          go_wp2
          go_ret
          exact ⟨⟨_, rfl⟩, ((Kept.refl S0 w).drewN _).drewN _⟩
      · obtain rfl : k = n := by omega
        go_wp2
        go_ret
        exact ⟨⟨_, rfl⟩, (Kept.refl S0 w).drewN q⟩
  · have hb : ((n : Int) != (m : Int)) = true := bne_iff_ne.2 (by omega)
    go_enter Try.func14, Try.ntmps14
    go_wp2
    go_ret
    exact ⟨⟨_, rfl⟩, Kept.refl _ _⟩

theorem types_is (A B : Option Addr) (n m c d : Nat) (v u : Nat → UInt8) (w : World) (hA : Came S0 w A n c v) (hB : Came S0 w B m d u) :
    Calls Try.prog 14 #[.slice A n c, .slice B m d] w fun e w' => ∃ b, e = .returned (.bool b) ∧ (n = m → v = u → b = true) ∧ Kept S0 w w' := by
  have hl := hA.le
  by_cases h : n = m ∧ v = u
  · obtain ⟨rfl, rfl⟩ := h
    exact (types_same A B n c d v v w hA.at hB.at (by omega) (fun _ _ => rfl)).mono fun e w' ⟨he, hk⟩ => ⟨true, he, fun _ _ => rfl, hk⟩
  · exact (types_some A B n m c d v u w hA.at hB.at (by omega)).mono fun e w' ⟨⟨b, he⟩, hk⟩ => ⟨b, he, fun h1 h2 => absurd ⟨h1, h2⟩ h, hk⟩

set_option maxHeartbeats 3200000 in
theorem sameF_is (x y : Value) (d d' : Frm) (w : World) (hx : FrIs w x d) (hy : FrIs w y d') : Calls Try.prog 35 #[x, y] w fun e w' => ∃ b, e = .returned (.bool b) ∧ (d = d' → b = true) ∧ Kept S0 w w' := by
  obtain ⟨A, c, B, e1, rfl, hA, hB⟩ := hx
  obtain ⟨A', c', B', e', rfl, hA', hB'⟩ := hy
  have hkd : Kept S0 w ((w.alloc (.cells #[.int .u16 d.op, .slice A d.n c, .slice B d.m e1, .int .i64 (d.h : Int), .bool d.dead] 39)).alloc (.cells #[.int .u16 d'.op, .slice A' d'.n c', .slice B' d'.m e', .int .i64 (d'.h : Int), .bool d'.dead] 39)) := ((Kept.refl S0 w).alloc _).alloc _
  have hb1 : Blk ((w.alloc (.cells #[.int .u16 d.op, .slice A d.n c, .slice B d.m e1, .int .i64 (d.h : Int), .bool d.dead] 39)).alloc (.cells #[.int .u16 d'.op, .slice A' d'.n c', .slice B' d'.m e', .int .i64 (d'.h : Int), .bool d'.dead] 39)) w.heap.size 39 #[.int .u16 d.op, .slice A d.n c, .slice B d.m e1, .int .i64 (d.h : Int), .bool d.dead] := (Blk.new w _ _).alloc _
  have hb2 : Blk ((w.alloc (.cells #[.int .u16 d.op, .slice A d.n c, .slice B d.m e1, .int .i64 (d.h : Int), .bool d.dead] 39)).alloc (.cells #[.int .u16 d'.op, .slice A' d'.n c', .slice B' d'.m e', .int .i64 (d'.h : Int), .bool d'.dead] 39)) (w.heap.size + 1) 39 #[.int .u16 d'.op, .slice A' d'.n c', .slice B' d'.m e', .int .i64 (d'.h : Int), .bool d'.dead] := Blk.new1 w _ _ _
  have T1 := Lib.hid (types_is A A' d.n d'.n c c' d.u d'.u _ (hA.kept hkd) (hA'.kept hkd))
  have HB := Lib.hid (And.intro (hB.kept hkd) (hB'.kept hkd))
  go_enter Try.func35, Try.ntmps35
  cases ho : (d.op == d'.op) with
  | false =>
    have hne : d = d' → False := fun e => by rw [e] at ho; simp at ho
    clear hA hB hA' hB' hb1 hb2
    go_wp2_with fail
    go_ret
    exact ⟨_, rfl, fun e => (hne e).elim, hkd⟩
  | true =>
    have HK := Lib.hid hkd
    have HB1 := Lib.hid hb1
    have HB2 := Lib.hid hb2
    clear hA hB hA' hB' hb1 hb2 hkd
    go_wp2_with fail
    refine T1.out.mono ?_
    rintro e w2 ⟨b1, rfl, hb1, hk2⟩
    have p1 := hk2.blk HB1.out (fun x => x)
    have p2 := hk2.blk HB2.out (fun x => x)
    have q2 := p1.cell 2
    have q3 := p1.cell 3
    have q4 := p1.cell 4
    have r2 := p2.cell 2
    have r3 := p2.cell 3
    have r4 := p2.cell 4
    have T2 := Lib.hid (types_is B B' d.m d'.m e1 e' d.t d'.t _ (HB.out.1.kept hk2) (HB.out.2.kept hk2))
    have HE1 := Lib.hid hb1
    have HK2 := Lib.hid (HK.out.then0 hk2)
    have HP := Lib.hid (And.intro p1 p2)
    clear p1 p2 hb1 hk2
    cases b1 with
    | false =>
      go_wp2_with fail
      go_ret
      exact ⟨_, rfl, fun e => (HE1.out (by rw [e]) (by rw [e])), HK2.out⟩
    | true =>
      go_wp2_with fail
      refine T2.out.mono ?_
      rintro e w3 ⟨b2, rfl, hb2, hk3⟩
      have p1 := hk3.blk HP.out.1 (fun x => x)
      have p2 := hk3.blk HP.out.2 (fun x => x)
      have q3 := p1.cell 3
      have q4 := p1.cell 4
      have r3 := p2.cell 3
      have r4 := p2.cell 4
      have HE2 := Lib.hid hb2
      have HK3 := Lib.hid (HK2.out.then0 hk3)
      clear p1 p2 hb2 hk3
      cases b2 with
      | false =>
        go_wp2_with fail
        go_ret
        exact ⟨_, rfl, fun e => (HE2.out (by rw [e]) (by rw [e])), HK3.out⟩
      | true =>
        cases hh : ((d.h : Int) == (d'.h : Int)) with
        | false =>
          go_wp2_with fail
          go_ret
          exact ⟨_, rfl, fun e => by rw [e] at hh; simp at hh, HK3.out⟩
        | true =>
          go_wp2_with fail
          go_ret
          exact ⟨_, rfl, fun e => by rw [e]; simp, HK3.out⟩

/-- A list of frames that reads as D. -/
structure FrL (w : World) (y : Value) (k : Nat) (D : Nat → Frm) : Prop where
  ex : ∃ A c G, y = .slice A k c ∧ Sl w A (k * 5) G ∧ FrsOk S0 w G k D

theorem frL_new {w : World} {b k : Nat} {y : Value} {G : Nat → Value} {D : Nat → Frm} (h : Own w b 39 5 AnyV y k G) (hN : ∀ q, q < k → FrNew w b G q (D q)) : FrL w y k D := by
  obtain ⟨A, c, rfl, _, _, hs⟩ := h.out
  refine ⟨A, c, G, rfl, hs, fun q hq => ?_⟩
  obtain ⟨x, y, hf, hx, hy, hn, hm⟩ := hN q hq
  obtain ⟨A1, c1, rfl, h1⟩ := came_own (S := S0) hx (fun _ _ x => x) hn
  obtain ⟨A2, c2, rfl, h2⟩ := came_own (S := S0) hy (fun _ _ x => x) hm
  exact ⟨A1, c1, A2, c2, hf, h1, h2⟩

theorem FrL.kept0 {w w' : World} {y : Value} {k : Nat} {D : Nat → Frm} (h : FrL w y k D) (hk : Kept S0 w w') : FrL w' y k D := by
  obtain ⟨A, c, G, h1, h2, h3⟩ := h.ex
  exact ⟨A, c, G, h1, (h2.slb.kept hk (Nat.le_refl _) (fun _ x => x.elim)).sl, h3.step (.of0 hk)⟩

theorem Kept.c {w w' : World} {p : Addr} {v : Value} (hk : Kept S0 w w') (h : w.cell? p = some v) : w'.cell? p = some v := (hk.cell (World.block_lt_of_cell? _ _ h) (fun x => x)).trans h

set_option maxHeartbeats 6400000 in
theorem same_is {X : Nat → Prop} {w : World} {s : St} {mv y : Value} (A : Option Addr) (c : Nat) (hm : ModIs X w mv s) (hA : Came S0 w A s.n c s.v) (hy : FrL w y s.k s.D) (hk : s.k ≤ 1000000000) : Calls Try.prog 21 #[mv, .slice A s.n c, y] w fun e w' => e = .returned (.bool true) ∧ Kept S0 w w' := by
  obtain ⟨V, cv, Fa, cf, G, rfl, hat⟩ := hm.ex
  obtain ⟨B, bc, G', rfl, hsB, hfB⟩ := hy.ex
  have hsG : Sl w Fa (s.k * 5) G := hat.frs.at
  have hfG : FrsOk S0 w G s.k s.D := hat.fr.mono (fun _ x => x.elim)
  have hV : Came S0 w V s.n cv s.v := hat.vals.mono (fun _ x => x.elim)
  have hkd : Kept S0 w (w.alloc (.cells #[.slice V s.n cv, .slice Fa s.k cf] 45)) := (Kept.refl S0 w).alloc _
  have hbd : Blk (w.alloc (.cells #[.slice V s.n cv, .slice Fa s.k cf] 45)) w.heap.size 45 #[.slice V s.n cv, .slice Fa s.k cf] := Blk.new w _ _
  have T1 := Lib.hid (types_same V A s.n cv c s.v s.v _ (hV.kept hkd).at (hA.kept hkd).at (by have := hA.le; omega) (fun _ _ => rfl))
  have bk : ((s.k : Int) != (s.k : Int)) = false := by simp
  have HSB := Lib.hid hsB
  have HFB := Lib.hid hfB
  have HSG := Lib.hid hsG
  have HFG := Lib.hid hfG
  have HKD := Lib.hid hkd
  have HBD := Lib.hid hbd
  clear hm hat hy hsB hfB hsG hfG hV hA hkd hbd
  go_enter Try.func21, Try.ntmps21
  go_wp2_with fail
  refine T1.out.mono ?_
  rintro e w2 ⟨rfl, hk2⟩
  have hb2 := hk2.blk HBD.out (fun x => x)
  have r1 := hb2.cell 1
  have HB2 := Lib.hid hb2
  have HK2 := Lib.hid (HKD.out.then0 hk2)
  clear hb2 hk2 T1
  go_wp2_with fail
  go_loopw [7] (fun i wr => ∃ j : Nat, i = .int .i64 (j : Int) ∧ j ≤ s.k ∧ Blk wr w.heap.size 45 #[.slice V s.n cv, .slice Fa s.k cf] ∧ Kept S0 w wr) (fun i _ => s.k - (intOf i).toNat)
  case atStart => exact ⟨0, rfl, by omega, HB2.out, HK2.out⟩
  case round =>
    obtain ⟨j, rfl, hj, hbr, hkr⟩ := hrel
    clear r1
    rcases Nat.lt_or_ge j s.k with hlt | hge
    · have hji : (j : Int) < (s.k : Int) := by omega
      have uj : IntKind.i64.wrap ((j : Int) + 1) = (j : Int) + 1 := IntWalk.i64_in _ (by omega)
      obtain ⟨A1, a1, B1, b1, hf1, hA1, hB1⟩ := HFG.out j hlt
      obtain ⟨A2, a2, B2, b2, hf2, hA2, hB2⟩ := HFB.out j hlt
      obtain ⟨g, o, hFa, hcs⟩ := HSG.out (by omega)
      subst hFa
      obtain ⟨g', o', hBe, hcs'⟩ := HSB.out (by omega)
      subst hBe
      have hdd := (Kept.refl S0 wr).drew
      have hkD := hkr.then0 hdd
      have hcell : ∀ i, i < s.k * 5 → wr.drew.cell? ⟨g, o + i, none⟩ = some (G i) := fun i hi => (hkD.cell (p := ⟨g, o + i, none⟩) (World.block_lt_of_cell? _ _ (hcs i hi)) (fun x => x)).trans (hcs i hi)
      have hcell' : ∀ i, i < s.k * 5 → wr.drew.cell? ⟨g', o' + i, none⟩ = some (G' i) := fun i hi => (hkD.cell (p := ⟨g', o' + i, none⟩) (World.block_lt_of_cell? _ _ (hcs' i hi)) (fun x => x)).trans (hcs' i hi)
      have f0 : wr.drew.cell? ⟨g, o + j * 5, none⟩ = some (.int .u16 (s.D j).op) := by rw [hcell _ (by omega), hf1.f0]
      have f1 : wr.drew.cell? ⟨g, o + j * 5 + 1, none⟩ = some (.slice A1 (s.D j).n a1) := by rw [show o + j * 5 + 1 = o + (j * 5 + 1) by omega, hcell _ (by omega), hf1.f1]
      have f2 : wr.drew.cell? ⟨g, o + j * 5 + 2, none⟩ = some (.slice B1 (s.D j).m b1) := by rw [show o + j * 5 + 2 = o + (j * 5 + 2) by omega, hcell _ (by omega), hf1.f2]
      have f3 : wr.drew.cell? ⟨g, o + j * 5 + 3, none⟩ = some (.int .i64 ((s.D j).h : Int)) := by rw [show o + j * 5 + 3 = o + (j * 5 + 3) by omega, hcell _ (by omega), hf1.f3]
      have f4 : wr.drew.cell? ⟨g, o + j * 5 + 4, none⟩ = some (.bool (s.D j).dead) := by rw [show o + j * 5 + 4 = o + (j * 5 + 4) by omega, hcell _ (by omega), hf1.f4]
      have g0 : wr.drew.cell? ⟨g', o' + j * 5, none⟩ = some (.int .u16 (s.D j).op) := by rw [hcell' _ (by omega), hf2.f0]
      have g1 : wr.drew.cell? ⟨g', o' + j * 5 + 1, none⟩ = some (.slice A2 (s.D j).n a2) := by rw [show o' + j * 5 + 1 = o' + (j * 5 + 1) by omega, hcell' _ (by omega), hf2.f1]
      have g2 : wr.drew.cell? ⟨g', o' + j * 5 + 2, none⟩ = some (.slice B2 (s.D j).m b2) := by rw [show o' + j * 5 + 2 = o' + (j * 5 + 2) by omega, hcell' _ (by omega), hf2.f2]
      have g3 : wr.drew.cell? ⟨g', o' + j * 5 + 3, none⟩ = some (.int .i64 ((s.D j).h : Int)) := by rw [show o' + j * 5 + 3 = o' + (j * 5 + 3) by omega, hcell' _ (by omega), hf2.f3]
      have g4 : wr.drew.cell? ⟨g', o' + j * 5 + 4, none⟩ = some (.bool (s.D j).dead) := by rw [show o' + j * 5 + 4 = o' + (j * 5 + 4) by omega, hcell' _ (by omega), hf2.f4]
      have p1 := (hdd.blk hbr (fun x => x)).cell 1
      have x1 : FrIs wr.drew (.agg #[.int .u16 (s.D j).op, .slice A1 (s.D j).n a1, .slice B1 (s.D j).m b1, .int .i64 ((s.D j).h : Int), .bool (s.D j).dead]) (s.D j) := ⟨A1, a1, B1, b1, rfl, hA1.kept hkD, hB1.kept hkD⟩
      have x2 : FrIs wr.drew (.agg #[.int .u16 (s.D j).op, .slice A2 (s.D j).n a2, .slice B2 (s.D j).m b2, .int .i64 ((s.D j).h : Int), .bool (s.D j).dead]) (s.D j) := ⟨A2, a2, B2, b2, rfl, hA2.kept hkD, hB2.kept hkD⟩
      have SF := Lib.hid (sameF_is _ _ _ _ _ x1 x2)
      have HBR := Lib.hid (hdd.blk hbr (fun x => x))
      have HKR := Lib.hid hkD
      have hS := And.intro p1 (And.intro f0 (And.intro f1 (And.intro f2 (And.intro f3 (And.intro f4 (And.intro g0 (And.intro g1 (And.intro g2 (And.intro g3 g4)))))))))
      clear hf1 hA1 hB1 hf2 hA2 hB2 hcs hcs' hcell hcell' hdd hkD hbr hkr p1 f0 f1 f2 f3 f4 g0 g1 g2 g3 g4 x1 x2
      go_wp2_with fail
      refine wp_region_S (fun w' => w'.cell? ⟨w.heap.size, 1, none⟩ = some (.slice (some ⟨g, o, none⟩) s.k cf) ∧ w'.cell? ⟨g, o + j * 5, none⟩ = some (.int .u16 (s.D j).op) ∧ w'.cell? ⟨g, o + j * 5 + 1, none⟩ = some (.slice A1 (s.D j).n a1) ∧ w'.cell? ⟨g, o + j * 5 + 2, none⟩ = some (.slice B1 (s.D j).m b1) ∧ w'.cell? ⟨g, o + j * 5 + 3, none⟩ = some (.int .i64 ((s.D j).h : Int)) ∧ w'.cell? ⟨g, o + j * 5 + 4, none⟩ = some (.bool (s.D j).dead) ∧ w'.cell? ⟨g', o' + j * 5, none⟩ = some (.int .u16 (s.D j).op) ∧ w'.cell? ⟨g', o' + j * 5 + 1, none⟩ = some (.slice A2 (s.D j).n a2) ∧ w'.cell? ⟨g', o' + j * 5 + 2, none⟩ = some (.slice B2 (s.D j).m b2) ∧ w'.cell? ⟨g', o' + j * 5 + 3, none⟩ = some (.int .i64 ((s.D j).h : Int)) ∧ w'.cell? ⟨g', o' + j * 5 + 4, none⟩ = some (.bool (s.D j).dead)) [] (by kernel_rfl) ?_
      generalize wr.drew = w3 at *
      refine wpAnyS_take 0 (v := ?_) rfl (by kernel_rfl) (by kernel_rfl) (by kernel_rfl) (by kernel_rfl) (fun _ _ _ h => h) hS ⟨by rfl, ?_⟩ ?_
      rotate_left; (intro w hSw; (try dsimp only at hSw); first | (go_simp; done) | (go_simp; with_reducible rfl))
      simp only [List.getElem_toArray, List.getElem_cons_zero, Act.put, List.setIfInBounds_toArray, List.set_cons_zero, List.set_cons_succ]
      refine wpAnyS_take 1 (v := ?_) rfl (by kernel_rfl) (by kernel_rfl) (by kernel_rfl) (by kernel_rfl) (fun _ _ _ h => h) hS ⟨by rfl, ?_⟩ ?_
      rotate_left; (intro w hSw; (try dsimp only at hSw); first | (go_simp; done) | (go_simp; with_reducible rfl))
      simp only [List.getElem_toArray, List.getElem_cons_zero, List.getElem_cons_succ, Act.put, List.setIfInBounds_toArray, List.set_cons_zero, List.set_cons_succ]
      refine wpAnyS_take 2 (v := ?_) rfl (by kernel_rfl) (by kernel_rfl) (by kernel_rfl) (by kernel_rfl) (fun _ _ _ h => h) hS ⟨by rfl, ?_⟩ ?_
      rotate_left; (intro w hSw; (try dsimp only at hSw); first | (go_simp; done) | (go_simp; with_reducible rfl))
      simp only [List.getElem_toArray, List.getElem_cons_zero, List.getElem_cons_succ, Act.put, List.setIfInBounds_toArray, List.set_cons_zero, List.set_cons_succ]
      refine wpAnyS_take 3 (v := ?_) rfl (by kernel_rfl) (by kernel_rfl) (by kernel_rfl) (by kernel_rfl) (fun _ _ _ h => h) hS ⟨by rfl, ?_⟩ ?_
      rotate_left; (intro w hSw; (try dsimp only at hSw); first | (go_simp; done) | (go_simp; with_reducible rfl))
      simp only [List.getElem_toArray, List.getElem_cons_zero, List.getElem_cons_succ, Act.put, List.setIfInBounds_toArray, List.set_cons_zero, List.set_cons_succ]
      refine wpAnyS_take 4 (v := ?_) rfl (by kernel_rfl) (by kernel_rfl) (by kernel_rfl) (by kernel_rfl) (fun _ _ _ h => h) hS ⟨by rfl, ?_⟩ ?_
      rotate_left; (intro w hSw; (try dsimp only at hSw); first | (go_simp; done) | (go_simp; with_reducible rfl))
      simp only [List.getElem_toArray, List.getElem_cons_zero, List.getElem_cons_succ, Act.put, List.setIfInBounds_toArray, List.set_cons_zero, List.set_cons_succ]
      refine wpAnyS_take 5 (v := ?_) rfl (by kernel_rfl) (by kernel_rfl) (by kernel_rfl) (by kernel_rfl) (fun _ _ _ h => h) hS ⟨by rfl, ?_⟩ ?_
      rotate_left; (intro w hSw; (try dsimp only at hSw); first | (go_simp; done) | (go_simp; with_reducible rfl))
      simp only [List.getElem_toArray, List.getElem_cons_zero, List.getElem_cons_succ, Act.put, List.setIfInBounds_toArray, List.set_cons_zero, List.set_cons_succ]
      refine wpAnyS_take 6 (v := ?_) rfl (by kernel_rfl) (by kernel_rfl) (by kernel_rfl) (by kernel_rfl) (fun _ _ _ h => h) hS ⟨by rfl, ?_⟩ ?_
      rotate_left; (intro w hSw; (try dsimp only at hSw); first | (go_simp; done) | (go_simp; with_reducible rfl))
      simp only [List.getElem_toArray, List.getElem_cons_zero, List.getElem_cons_succ, Act.put, List.setIfInBounds_toArray, List.set_cons_zero, List.set_cons_succ]
      refine wpAnyS_take 7 (v := ?_) rfl (by kernel_rfl) (by kernel_rfl) (by kernel_rfl) (by kernel_rfl) (fun _ _ _ h => h) hS ⟨by rfl, ?_⟩ ?_
      rotate_left; (intro w hSw; (try dsimp only at hSw); first | (go_simp; done) | (go_simp; with_reducible rfl))
      simp only [List.getElem_toArray, List.getElem_cons_zero, List.getElem_cons_succ, Act.put, List.setIfInBounds_toArray, List.set_cons_zero, List.set_cons_succ]
      refine wpAnyS_take 8 (v := ?_) rfl (by kernel_rfl) (by kernel_rfl) (by kernel_rfl) (by kernel_rfl) (fun _ _ _ h => h) hS ⟨by rfl, ?_⟩ ?_
      rotate_left; (intro w hSw; (try dsimp only at hSw); first | (go_simp; done) | (go_simp; with_reducible rfl))
      simp only [List.getElem_toArray, List.getElem_cons_zero, List.getElem_cons_succ, Act.put, List.setIfInBounds_toArray, List.set_cons_zero, List.set_cons_succ]
      refine wpAnyS_one 9 rfl (by kernel_rfl) (fun K hK9 => ?_)
      go_simp
      go_at_call 35
      refine SF.out.mono ?_
      rintro e w4 ⟨bb, rfl, hbb, hk4⟩
      obtain rfl : bb = true := hbb (by first | trivial | rfl)
      obtain ⟨s0, s1, s2, s3, s4, s5, s6, s7, s8, s9, s10⟩ := hS
      refine hK9.out _ _ (fun _ => ⟨hk4.c s0, hk4.c s1, hk4.c s2, hk4.c s3, hk4.c s4, hk4.c s5, hk4.c s6, hk4.c s7, hk4.c s8, hk4.c s9, hk4.c s10⟩) ?_
      clear hK9 K
      have hS4 := And.intro (hk4.c s0) (And.intro (hk4.c s1) (And.intro (hk4.c s2) (And.intro (hk4.c s3) (And.intro (hk4.c s4) (And.intro (hk4.c s5) (And.intro (hk4.c s6) (And.intro (hk4.c s7) (And.intro (hk4.c s8) (And.intro (hk4.c s9) (hk4.c s10))))))))))
      refine wpAnyS_take 10 (v := ?_) rfl (by kernel_rfl) (by kernel_rfl) (by kernel_rfl) (by kernel_rfl) (fun _ _ _ h => h) hS4 ⟨by rfl, ?_⟩ ?_
      rotate_left; (intro w hSw; (try dsimp only at hSw); first | (go_simp; done) | (go_simp; with_reducible rfl))
      simp only [List.getElem_toArray, List.getElem_cons_zero, List.getElem_cons_succ, Act.put, List.setIfInBounds_toArray, List.set_cons_zero, List.set_cons_succ]
      refine wpAnyS_done (by kernel_rfl) ?_ _
      have HB4 := Lib.hid (hk4.blk HBR.out (fun x => x))
      have HK4 := Lib.hid (HKR.out.then0 hk4)
      clear hS4 s0 s1 s2 s3 s4 s5 s6 s7 s8 s9 s10 hk4 SF hbb
      go_wp2_with fail
      go_roundw
      case rel => exact ⟨j + 1, by go_num, by omega, HB4.out, HK4.out⟩
      case measure => simp [intOf]; omega
    · obtain rfl : j = s.k := by omega
      have HKR := Lib.hid hkr
      clear hbr hkr
      go_wp2_with fail
      go_ret
      exact ⟨rfl, HKR.out⟩
end Go.Proofs.Ytpbaojjcbpfdaaa
