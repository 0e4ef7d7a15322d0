/- The walk of the statement StackFresh. No condition. -/
import Derived.Test.YtpbaojjcbpfdaaaLStkK
namespace Go.Proofs.Ytpbaojjcbpfdaaa
open Go.RowKit

theorem own_put {w : World} {B n g j : Nat} {x : Value} {F : Nat → Value} (h : Own w B 30 1 IsByte x n F) : ∃ F', Own (w.setCell ⟨g, j, none⟩ (.int .u8 1)) B 30 1 IsByte x n F' := by
  by_cases hg : x.ownBlock = some g
  · obtain ⟨A, c, rfl, _, _, _⟩ := h.out
    rcases h with ⟨e, e0⟩ | ⟨g1, c1, fr, e, k2, k3, k4, k5, k6, k7⟩
    · rw [e] at hg; simp [Value.ownBlock] at hg
    · rw [e] at hg
      obtain rfl : g1 = g := by simpa [Value.ownBlock] using hg
      rw [e]
      refine ⟨_, .inr ⟨g1, c1, _, rfl, k2, k3, k4, k5.set j (.int .u8 1), fun _ _ => rfl, fun i hi => ?_⟩⟩
      show IsByte (if i = j then _ else fr i)
      split
      · exact ⟨1, rfl⟩
      · exact k7 i hi
  · exact ⟨F, h.kept ((Kept.refl (S1 g) w).setCell (p := ⟨g, j, none⟩) (.inl rfl) _) (fun i hi e => hg (by rw [hi]; exact congrArg some e))⟩

/-- What was answered: memory that may be written. -/
structure Loose (w : World) (B : Nat) (x : Value) (n : Nat) (y : Value) (k : Nat) (G : Nat → Value) (D : Nat → Frm) : Prop where
  vals : ∃ F, Own w B 30 1 IsByte x n F
  frs : ∃ G', Own w B 39 5 AnyV y k G' ∧ ∀ q, q < k → G' (q * 5 + 1) = G (q * 5 + 1)
  ins : ∀ q, q < k → ∃ F, Own w B 30 1 IsByte (G (q * 5 + 1)) (D q).n F

theorem Loose.put8 {w : World} {B n k g j : Nat} {x y : Value} {G : Nat → Value} {D : Nat → Frm} (h : Loose w B x n y k G D) (hy : y.ownBlock ≠ some g) : Loose (w.setCell ⟨g, j, none⟩ (.int .u8 1)) B x n y k G D := by
  obtain ⟨F, hx⟩ := h.vals
  obtain ⟨G', hg, he⟩ := h.frs
  refine ⟨own_put hx, ⟨G', hg.kept ((Kept.refl (S1 g) w).setCell (p := ⟨g, j, none⟩) (.inl rfl) _) (fun i hi e => hy (by rw [hi]; exact congrArg some e)), he⟩, fun q hq => ?_⟩
  obtain ⟨F', hq'⟩ := h.ins q hq
  exact own_put hq'

theorem Loose.put7 {w : World} {B n k q c gy : Nat} {x : Value} {G : Nat → Value} {D : Nat → Frm} (h : Loose w B x n (.slice (some ⟨gy, 0, none⟩) k c) k G D) : Loose (w.setCell ⟨gy, q * 5 + 3, none⟩ (.int .i64 7)) B x n (.slice (some ⟨gy, 0, none⟩) k c) k G D := by
  obtain ⟨F, hx⟩ := h.vals
  obtain ⟨G', hg, he⟩ := h.frs
  have hk := (Kept.refl (S1 gy) w).setCell (p := ⟨gy, q * 5 + 3, none⟩) (.inl rfl) (.int .i64 7)
  have ne : ∀ {v : Value} {m : Nat} {F : Nat → Value}, Own w B 30 1 IsByte v m F → ∀ i, v.ownBlock = some i → ¬ S1 gy i := fun hv i hi e => own_types hv hg (by decide) i hi (by have e' : i = gy := e; rw [e']; rfl)
  refine ⟨⟨F, hx.kept hk (ne hx)⟩, ?_, fun r hr => ?_⟩
  · rcases hg with ⟨e, _⟩ | ⟨g1, c1, fr, e, k2, k3, k4, k5, k6, k7⟩
    · cases e
    · cases e
      refine ⟨fun i => if i = q * 5 + 3 then .int .i64 7 else fr i, .inr ⟨gy, c, _, rfl, k2, k3, k4, k5.set (q * 5 + 3) (.int .i64 7), fun _ _ => rfl, fun _ _ => trivial⟩, fun r hr => ?_⟩
      show (if r * 5 + 1 = q * 5 + 3 then _ else fr (r * 5 + 1)) = _
      rw [if_neg (by omega), k6 _ (by omega)]
      exact he r hr
  · obtain ⟨F', hr'⟩ := h.ins r hr
    exact ⟨F', hr'.kept hk (ne hr')⟩

theorem Own.frCell {w : World} {B k c gy i : Nat} {G : Nat → Value} (h : Own w B 39 5 AnyV (.slice (some ⟨gy, 0, none⟩) k c) k G) (hi : i < k * 5) : w.cell? ⟨gy, i, none⟩ = some (G i) ∧ w.frozen? ⟨gy, i, none⟩ = false := by
  rcases h with ⟨e, _⟩ | ⟨g1, c1, fr, e, k2, k3, k4, k5, k6, k7⟩
  · cases e
  · cases e
    exact ⟨by rw [← k6 i hi]; exact k5.cell (Nat.lt_of_lt_of_le hi (Nat.mul_le_mul_right _ k3)), k5.frozen i⟩

def SR (B C : Nat) : Nat → Prop := fun g => B ≤ g ∧ g < C

set_option maxRecDepth 100000 in
set_option maxHeartbeats 12800000 in
theorem stkFresh_any (L : Option Addr) (l lc : Nat) (a : Nat → ActV) (w : World) (hL : ActsAt w L l a) : Calls Try.prog 8 #[.slice L l lc] w fun e w' => e = .returned (.bool true) ∧ Kept S0 w w' := by
  have HL := Lib.hid hL
  have hll := hL.len
  clear hL
  go_enter Try.func8, Try.ntmps8
  go_wp2_with fail
  refine (newstk_any w).mono ?_
  rintro e w1 ⟨sb, rfl, hm1, hk1⟩
  have HI := Lib.hid (And.intro (stk_new hm1) (hk1.of0 (SB w.heap.size)))
  clear hm1 hk1
  go_wp2_with fail
  go_loopw [4] (fun i wr => ∃ (j : Nat) (s : St) (X : Nat → Prop), i = .int .i64 (j : Int) ∧ j ≤ 40 ∧ j ≤ l ∧ StkIs wr sb w.heap.size X S0 s ∧ s.Wf ∧ s.n ≤ j * 1048576 ∧ s.k ≤ j ∧ Kept (SB w.heap.size) w wr) (fun i _ => l - (intOf i).toNat)
  case atStart => exact ⟨0, ⟨0, fun _ => 0, 0, fun _ => frm0⟩, S1 sb, rfl, by omega, by omega, HI.out.1, wf_new, by simp, by simp, HI.out.2⟩
  case round =>
    obtain ⟨j, s, X, rfl, hj60, hjl, hS, hW, hn, hk, hK⟩ := hrel
    obtain ⟨wz, hwz⟩ : ∃ wz, wz = wr := ⟨_, rfl⟩
    subst hwz
    have HS := Lib.hid hS
    have HK := Lib.hid hK
    have HW := Lib.hid hW
    by_cases hlt : j < l ∧ j < 40
    · obtain ⟨h1, h2⟩ := hlt
      have hji : (j : Int) < (l : Int) := by omega
      have hj8 : (j : Int) < 40 := by omega
      have hj0 : (0 : Int) ≤ (j : Int) := by omega
      have uj : IntKind.i64.wrap ((j : Int) + 1) = (j : Int) + 1 := IntWalk.i64_in _ (by omega)
      obtain ⟨b, o, hLe, hact⟩ := HL.out.acts (by omega)
      subst hLe
      have ha := hact j h1
      have hcl : ∀ i, i < 6 → wz.cell? ⟨b, o + j * 6 + i, none⟩ = some ((a j).cell i) := fun i hi => by
        have h3 := ha.cells i hi
        have hb4 : b < w.heap.size := World.block_lt_of_cell? _ _ h3
        exact (hK.cell (p := ⟨b, o + j * 6 + i, none⟩) hb4 (fun e => by have e' : w.heap.size ≤ b := e; omega)).trans h3
      have p0 : wz.cell? ⟨b, o + j * 6, none⟩ = some (.int .i64 (a j).d) := hcl 0 (by omega)
      have p1 : wz.cell? ⟨b, o + j * 6 + 1, none⟩ = some (.int .u16 (a j).o) := hcl 1 (by omega)
      have p2 : wz.cell? ⟨b, o + j * 6 + 2, none⟩ = some (.int .u32 ((a j).n : Int)) := hcl 2 (by omega)
      have p3 : wz.cell? ⟨b, o + j * 6 + 3, none⟩ = some (.int .u8 ((a j).t.toNat : Int)) := hcl 3 (by omega)
      have p4 : wz.cell? ⟨b, o + j * 6 + 4, none⟩ = some (.slice (a j).A (a j).mi (a j).c) := hcl 4 (by omega)
      have p5 : wz.cell? ⟨b, o + j * 6 + 5, none⟩ = some (.slice (a j).B (a j).k (a j).e) := hcl 5 (by omega)
      have hsm := ha.small
      have hRD : Ready X S0 wz sb w.heap.size s ⟨0, fun _ => 0, 0, fun _ => frm0⟩ (.agg #[.slice none 0 0, .slice none 0 0]) (a j).A (a j).mi (a j).c (a j).v (a j).B (a j).k (a j).e (a j).u := ⟨hS, hW, mod_new, wf_new, ha.inn.kept hK, ha.out.kept hK, by omega, by show 0 + (a j).mi ≤ _; omega, by omega, by show 0 + 1 ≤ _; omega⟩
      obtain ⟨q1, q2, q3⟩ := St.act_wf hW (a j).d (a j).o (a j).t (a j).mi (a j).v (a j).k (a j).u (by omega) (by omega)
      have BO := Lib.hid (both_is (d := (a j).d) (o := (a j).o) (t := (a j).t) ha.ni hRD)
      have HQ := Lib.hid (And.intro q1 (And.intro q2 q3))
      clear hRD q1 q2 q3 hS hW hK hact ha hcl
      go_wp2_with fail
      refine BO.out.mono ?_
      rintro e w5 ⟨mv', bb, X', rfl, _, hS5, hst5, _⟩
      have HS5 := Lib.hid hS5
      have HK5 := Lib.hid (HK.out.trans (hst5.kept.mono HS.out.low))
      clear hS5 hst5 BO p0 p1 p2 p3 p4 p5
      go_wp2_with fail
      go_roundw
      case rel => exact ⟨j + 1, _, X', by go_num, by omega, by omega, HS5.out, HQ.out.1, by have := HQ.out.2.1; omega, by have := HQ.out.2.2; omega, HK5.out⟩
      case measure => simp [intOf]; omega
    · have hcase : (l ≤ j) ∨ (j < l ∧ j = 40) := by omega
      have hnB := hW.n
      have hkB := hW.k
      have VA := Lib.hid (values_is hS hW.n)
      clear hS hW hK hlt
      rcases hcase with h | ⟨h1, hj40⟩
      · have g1 : (l : Int) ≤ (j : Int) := by omega
        go_wp2_with fail
        refine VA.out.mono ?_
        rintro e w2 ⟨x, rfl, hx, hk2⟩
        obtain ⟨xA, xc, rfl, hxc⟩ := came_own (S := S0) hx (fun _ _ x => x) hnB
        have FM := Lib.hid (frames_is (HS.out.kept0 hk2) HW.out)
        have HX2 := Lib.hid hx
        have HXC := Lib.hid hxc
        have HK2 := Lib.hid hk2
        clear hx hxc hk2 VA
        go_wp2_with fail
        refine FM.out.mono ?_
        rintro e w3 ⟨y, G, rfl, hy, hN, hk3⟩
        obtain ⟨yA, yc, rfl, _, _, _⟩ := hy.out
        have CT := Lib.hid (copyT_any xA s.n xc s.v (HXC.out.kept hk3))
        have HX3 := Lib.hid (HX2.out.kept hk3 (fun _ _ x => x))
        have HY3 := Lib.hid hy
        have HN3 := Lib.hid hN
        have HK3 := Lib.hid (HK2.out.then0 hk3)
        have hs23 : w2.heap.size ≤ w3.heap.size := hk3.size
        have hsr2 : wz.heap.size ≤ w2.heap.size := HK2.out.size
        clear hy hN hk3 FM
        go_wp2_with fail
        refine CT.out.mono ?_
        rintro e w4 ⟨z, rfl, hz, hk4⟩
        obtain ⟨zA, zc, rfl, _, _, _⟩ := hz.out
        have HZ := Lib.hid hz
        have HK4 := Lib.hid (HK3.out.then0 hk4)
        have hLoose : Loose w4 wz.heap.size (.slice xA s.n xc) s.n (.slice yA s.k yc) s.k G s.D := ⟨⟨_, HX3.out.kept hk4 (fun _ _ x => x)⟩, ⟨G, (HY3.out.mono hsr2).kept hk4 (fun _ _ x => x), fun _ _ => rfl⟩, fun q hq => by
          obtain ⟨xq, yq, hf, hxq, _⟩ := HN3.out q hq
          rw [hf.f1]
          exact ⟨_, (hxq.mono hsr2).kept hk4 (fun _ _ x => x)⟩⟩
        have HXR := Lib.hid (show ∀ g, (Value.slice xA s.n xc).ownBlock = some g → SR wz.heap.size w3.heap.size g from fun g hg => HX3.out.lt g hg)
        have HYR := Lib.hid (show ∀ g, (Value.slice yA s.k yc).ownBlock = some g → SR wz.heap.size w3.heap.size g from fun g hg => ⟨Nat.le_trans hsr2 (HY3.out.lt g hg).1, (HY3.out.lt g hg).2⟩)
        have HIR := Lib.hid (show ∀ q, q < s.k → ∃ iA ic, G (q * 5 + 1) = .slice iA (s.D q).n ic ∧ (s.D q).n ≤ 140737488351232 ∧ ∀ g, (Value.slice iA (s.D q).n ic).ownBlock = some g → SR wz.heap.size w3.heap.size g from fun q hq => by
          obtain ⟨xq, yq, hf, hxq, _, hl, _⟩ := HN3.out q hq
          obtain ⟨iA, ic, rfl, _, _, _⟩ := hxq.out
          exact ⟨iA, ic, hf.f1, hl, fun g hg => ⟨Nat.le_trans hsr2 (hxq.lt g hg).1, (hxq.lt g hg).2⟩⟩)
        have HLO := Lib.hid hLoose
        clear hz hk4 hLoose CT HX2 HX3 HY3 HN3 HXC
        go_wp2_with fail
        go_loopw [8] (fun i wq => ∃ jj : Nat, i = .int .i64 (jj : Int) ∧ jj ≤ s.n ∧ Loose wq wz.heap.size (.slice xA s.n xc) s.n (.slice yA s.k yc) s.k G s.D ∧ Kept (SR wz.heap.size w3.heap.size) w4 wq) (fun i _ => s.n - (intOf i).toNat)
        case atStart => exact ⟨0, rfl, by omega, HLO.out, Kept.refl _ _⟩
        case round =>
          obtain ⟨jj, rfl, hjj, hlo, hkq⟩ := hrel
          rcases Nat.lt_or_ge jj s.n with hlt | hge
          · obtain ⟨F, hx⟩ := hlo.vals
            obtain ⟨g, hg⟩ := hx.some_of (by omega)
            obtain ⟨G', hgy, _⟩ := hlo.frs
            subst hg
            obtain ⟨t1, t2⟩ := hx.cellAt hlt
            have HL8 := Lib.hid (hlo.put8 (g := g) (j := jj) (fun e => own_types hx hgy (by decide) g rfl e))
            have HK8 := Lib.hid (hkq.setCell (p := ⟨g, jj, none⟩) (.inl (HXR.out g rfl)) (.int .u8 1))
            have hji : (jj : Int) < (s.n : Int) := by omega
            have uj : IntKind.i64.wrap ((jj : Int) + 1) = (jj : Int) + 1 := IntWalk.i64_in _ (by omega)
            clear hx hgy hlo hkq
            go_wp2_with fail
            go_roundw
            case rel => exact ⟨jj + 1, by go_num, by omega, HL8.out, HK8.out⟩
            case measure => simp [intOf]; omega
          · obtain rfl : s.n = jj := by omega
            have HLO := Lib.hid hlo
            have HKQ := Lib.hid hkq
            clear hlo hkq
            go_wp2_with fail
            go_loopw [9] (fun i wq => ∃ jj : Nat, i = .int .i64 (jj : Int) ∧ jj ≤ s.k ∧ Loose wq wz.heap.size (.slice xA s.n xc) s.n (.slice yA s.k yc) s.k G s.D ∧ Kept (SR wz.heap.size w3.heap.size) w4 wq) (fun i _ => s.k - (intOf i).toNat)
            case atStart => exact ⟨0, rfl, by omega, HLO.out, HKQ.out⟩
            case round =>
              obtain ⟨jj, rfl, hjj, hlo, hkq⟩ := hrel
              rcases Nat.lt_or_ge jj s.k with hlt | hge
              · obtain ⟨iA, ic, hG, hil, hir⟩ := HIR.out jj hlt
                obtain ⟨G', hgy, hGe⟩ := hlo.frs
                obtain ⟨gy, hgye⟩ := hgy.some_of (by omega)
                subst hgye
                have HIRR := Lib.hid hir
                have HGG := Lib.hid hG
                have HLO := Lib.hid hlo
                have HKQ := Lib.hid hkq
                have hji : (jj : Int) < (s.k : Int) := by omega
                have uj : IntKind.i64.wrap ((jj : Int) + 1) = (jj : Int) + 1 := IntWalk.i64_in _ (by omega)
                clear hlo hkq hgy hGe hir hG
                go_wp2_with fail
                go_loopw [10] (fun i wq => ∃ mm : Nat, i = .int .i64 (mm : Int) ∧ mm ≤ (s.D jj).n ∧ Loose wq wz.heap.size (.slice xA s.n xc) s.n (.slice (some ⟨gy, 0, none⟩) s.k yc) s.k G s.D ∧ Kept (SR wz.heap.size w3.heap.size) w4 wq) (fun i _ => (s.D jj).n - (intOf i).toNat)
                case atStart => exact ⟨0, rfl, by omega, HLO.out, HKQ.out⟩
                case round =>
                  obtain ⟨mm, rfl, hmm, hlo, hkq⟩ := hrel
                  obtain ⟨G', hgy, hGe⟩ := hlo.frs
                  obtain ⟨t1, t2⟩ := hgy.frCell (i := jj * 5 + 1) (by omega)
                  obtain ⟨t3, t4⟩ := hgy.frCell (i := jj * 5 + 3) (by omega)
                  rw [hGe jj hlt, HGG.out] at t1
                  rcases Nat.lt_or_ge mm (s.D jj).n with hlm | hgm
                  · obtain ⟨F, hi⟩ := hlo.ins jj hlt
                    rw [HGG.out] at hi
                    obtain ⟨gi, hgi⟩ := hi.some_of (by omega)
                    subst hgi
                    obtain ⟨t5, t6⟩ := hi.cellAt hlm
                    have HL8 := Lib.hid (hlo.put8 (g := gi) (j := mm) (fun e => own_types hi hgy (by decide) gi rfl e))
                    have HK8 := Lib.hid (hkq.setCell (p := ⟨gi, mm, none⟩) (.inl (HIRR.out gi rfl)) (.int .u8 1))
                    have hmi : (mm : Int) < ((s.D jj).n : Int) := by omega
                    have um : IntKind.i64.wrap ((mm : Int) + 1) = (mm : Int) + 1 := IntWalk.i64_in _ (by omega)
                    clear hi hgy hlo hkq hGe t2 t3 t4
                    go_wp2_with fail
                    go_roundw
                    case rel => exact ⟨mm + 1, by go_num, by omega, HL8.out, HK8.out⟩
                    case measure => simp [intOf]; omega
                  · have hmi : ((s.D jj).n : Int) ≤ (mm : Int) := by omega
                    have HL7 := Lib.hid (hlo.put7 (q := jj))
                    have HK7 := Lib.hid (hkq.setCell (p := ⟨gy, jj * 5 + 3, none⟩) (.inl (HYR.out gy rfl)) (.int .i64 7))
                    clear hgy hlo hkq hGe t2
                    go_wp2_with fail
                    go_roundw
                    case rel => exact ⟨jj + 1, by go_num, by omega, HL7.out, HK7.out⟩
                    case measure => simp [intOf]; omega
              · have g3 : (s.k : Int) ≤ (jj : Int) := by omega
                have hK0 : Kept S0 wz wr := Kept.trans_ (S' := SR wz.heap.size w3.heap.size) HK4.out hkq (fun i hi => .inr hi.1)
                have HK0 := Lib.hid hK0
                have HZQ := Lib.hid (HZ.out.kept hkq (fun g hg e => by have := (HZ.out.lt g hg).1; have := e.2; omega))
                have FM := Lib.hid (frames_is (HS.out.kept0 hK0) HW.out)
                clear hlo hkq hK0
                go_wp2_with fail
                refine FM.out.mono ?_
                rintro e w6 ⟨y6, G6, rfl, hy6, hN6, hk6⟩
                obtain ⟨yB, yd, rfl, _, _, _⟩ := hy6.out
                have HY6 := Lib.hid hy6
                have HN6 := Lib.hid hN6
                have HK6 := Lib.hid (HK0.out.then0 hk6)
                have HZ6 := Lib.hid (HZQ.out.kept hk6 (fun _ _ x => x))
                clear hy6 hN6 hk6 FM
                go_wp2_with fail
                go_loopw [12] (fun i wq => ∃ jj : Nat, i = .int .i64 (jj : Int) ∧ jj ≤ s.k ∧ wq = w6) (fun i _ => s.k - (intOf i).toNat)
                case atStart => exact ⟨0, rfl, by omega, by first | trivial | rfl⟩
                case round =>
                  obtain ⟨jj, rfl, hjj, rfl⟩ := hrel
                  rcases Nat.lt_or_ge jj s.k with hlt | hge
                  · obtain ⟨g6, hg6⟩ := HY6.out.some_of (by omega)
                    subst hg6
                    have hc6 := (HY6.out.frCell (i := jj * 5 + 3) (by omega)).1
                    obtain ⟨x7, y7, hf7, _⟩ := HN6.out jj hlt
                    rw [hf7.f3] at hc6
                    have hle := HW.out.le jj hlt
                    have hh : ((s.D jj).h : Int) ≤ (s.n : Int) := by omega
                    have hji : (jj : Int) < (s.k : Int) := by omega
                    have uj : IntKind.i64.wrap ((jj : Int) + 1) = (jj : Int) + 1 := IntWalk.i64_in _ (by omega)
                    clear hf7
                    go_wp2_with fail
                    go_roundw
                    case rel => exact ⟨jj + 1, by go_num, by omega, by first | trivial | rfl⟩
                    case measure => simp [intOf]; omega
                  · have g6 : (s.k : Int) ≤ (jj : Int) := by omega
                    have V6 := Lib.hid (values_is (HS.out.kept0 HK6.out) HW.out.n)
                    go_wp2_with fail
                    refine V6.out.mono ?_
                    rintro e w7 ⟨v7, rfl, hv7, hk7⟩
                    obtain ⟨vA, vc, rfl, hvc⟩ := came_own (S := S0) hv7 (fun _ _ x => x) HW.out.n
                    obtain ⟨_, _, hze, hzc⟩ := came_own (S := S0) (HZ6.out.kept hk7 (fun _ _ x => x)) (fun _ _ x => x) HW.out.n
                    cases hze
                    have TY := Lib.hid (types_same vA zA s.n vc zc s.v s.v w7 hvc.at hzc.at (by have := HW.out.n; omega) (fun _ _ => rfl))
                    have HK7 := Lib.hid (HK6.out.then0 hk7)
                    clear hv7 hk7 hvc hzc V6
                    go_wp2_with fail
                    refine TY.out.mono ?_
                    rintro e w8 ⟨rfl, hk8⟩
                    go_wp2_with fail
                    refine (lives_any _).mono ?_
                    rintro e w9 ⟨rfl, hk9⟩
                    go_wp2_with fail
                    go_ret
                    exact ⟨rfl, Kept.toS0 (HK.out.then0 ((HK7.out.then0 hk8).then0 hk9))⟩
      · subst hj40
        have g1 : (((40 : Nat) : Int)) < (l : Int) := by omega
        go_wp2_with fail
        refine VA.out.mono ?_
        rintro e w2 ⟨x, rfl, hx, hk2⟩
        obtain ⟨xA, xc, rfl, hxc⟩ := came_own (S := S0) hx (fun _ _ x => x) hnB
        have FM := Lib.hid (frames_is (HS.out.kept0 hk2) HW.out)
        have HX2 := Lib.hid hx
        have HXC := Lib.hid hxc
        have HK2 := Lib.hid hk2
        clear hx hxc hk2 VA
        go_wp2_with fail
        refine FM.out.mono ?_
        rintro e w3 ⟨y, G, rfl, hy, hN, hk3⟩
        obtain ⟨yA, yc, rfl, _, _, _⟩ := hy.out
        have CT := Lib.hid (copyT_any xA s.n xc s.v (HXC.out.kept hk3))
        have HX3 := Lib.hid (HX2.out.kept hk3 (fun _ _ x => x))
        have HY3 := Lib.hid hy
        have HN3 := Lib.hid hN
        have HK3 := Lib.hid (HK2.out.then0 hk3)
        have hs23 : w2.heap.size ≤ w3.heap.size := hk3.size
        have hsr2 : wz.heap.size ≤ w2.heap.size := HK2.out.size
        clear hy hN hk3 FM
        go_wp2_with fail
        refine CT.out.mono ?_
        rintro e w4 ⟨z, rfl, hz, hk4⟩
        obtain ⟨zA, zc, rfl, _, _, _⟩ := hz.out
        have HZ := Lib.hid hz
        have HK4 := Lib.hid (HK3.out.then0 hk4)
        have hLoose : Loose w4 wz.heap.size (.slice xA s.n xc) s.n (.slice yA s.k yc) s.k G s.D := ⟨⟨_, HX3.out.kept hk4 (fun _ _ x => x)⟩, ⟨G, (HY3.out.mono hsr2).kept hk4 (fun _ _ x => x), fun _ _ => rfl⟩, fun q hq => by
          obtain ⟨xq, yq, hf, hxq, _⟩ := HN3.out q hq
          rw [hf.f1]
          exact ⟨_, (hxq.mono hsr2).kept hk4 (fun _ _ x => x)⟩⟩
        have HXR := Lib.hid (show ∀ g, (Value.slice xA s.n xc).ownBlock = some g → SR wz.heap.size w3.heap.size g from fun g hg => HX3.out.lt g hg)
        have HYR := Lib.hid (show ∀ g, (Value.slice yA s.k yc).ownBlock = some g → SR wz.heap.size w3.heap.size g from fun g hg => ⟨Nat.le_trans hsr2 (HY3.out.lt g hg).1, (HY3.out.lt g hg).2⟩)
        have HIR := Lib.hid (show ∀ q, q < s.k → ∃ iA ic, G (q * 5 + 1) = .slice iA (s.D q).n ic ∧ (s.D q).n ≤ 140737488351232 ∧ ∀ g, (Value.slice iA (s.D q).n ic).ownBlock = some g → SR wz.heap.size w3.heap.size g from fun q hq => by
          obtain ⟨xq, yq, hf, hxq, _, hl, _⟩ := HN3.out q hq
          obtain ⟨iA, ic, rfl, _, _, _⟩ := hxq.out
          exact ⟨iA, ic, hf.f1, hl, fun g hg => ⟨Nat.le_trans hsr2 (hxq.lt g hg).1, (hxq.lt g hg).2⟩⟩)
        have HLO := Lib.hid hLoose
        clear hz hk4 hLoose CT HX2 HX3 HY3 HN3 HXC
        go_wp2_with fail
        go_loopw [8] (fun i wq => ∃ jj : Nat, i = .int .i64 (jj : Int) ∧ jj ≤ s.n ∧ Loose wq wz.heap.size (.slice xA s.n xc) s.n (.slice yA s.k yc) s.k G s.D ∧ Kept (SR wz.heap.size w3.heap.size) w4 wq) (fun i _ => s.n - (intOf i).toNat)
        case atStart => exact ⟨0, rfl, by omega, HLO.out, Kept.refl _ _⟩
        case round =>
          obtain ⟨jj, rfl, hjj, hlo, hkq⟩ := hrel
          rcases Nat.lt_or_ge jj s.n with hlt | hge
          · obtain ⟨F, hx⟩ := hlo.vals
            obtain ⟨g, hg⟩ := hx.some_of (by omega)
            obtain ⟨G', hgy, _⟩ := hlo.frs
            subst hg
            obtain ⟨t1, t2⟩ := hx.cellAt hlt
            have HL8 := Lib.hid (hlo.put8 (g := g) (j := jj) (fun e => own_types hx hgy (by decide) g rfl e))
            have HK8 := Lib.hid (hkq.setCell (p := ⟨g, jj, none⟩) (.inl (HXR.out g rfl)) (.int .u8 1))
            have hji : (jj : Int) < (s.n : Int) := by omega
            have uj : IntKind.i64.wrap ((jj : Int) + 1) = (jj : Int) + 1 := IntWalk.i64_in _ (by omega)
            clear hx hgy hlo hkq
            go_wp2_with fail
            go_roundw
            case rel => exact ⟨jj + 1, by go_num, by omega, HL8.out, HK8.out⟩
            case measure => simp [intOf]; omega
          · obtain rfl : s.n = jj := by omega
            have HLO := Lib.hid hlo
            have HKQ := Lib.hid hkq
            clear hlo hkq
            go_wp2_with fail
            go_loopw [9] (fun i wq => ∃ jj : Nat, i = .int .i64 (jj : Int) ∧ jj ≤ s.k ∧ Loose wq wz.heap.size (.slice xA s.n xc) s.n (.slice yA s.k yc) s.k G s.D ∧ Kept (SR wz.heap.size w3.heap.size) w4 wq) (fun i _ => s.k - (intOf i).toNat)
            case atStart => exact ⟨0, rfl, by omega, HLO.out, HKQ.out⟩
            case round =>
              obtain ⟨jj, rfl, hjj, hlo, hkq⟩ := hrel
              rcases Nat.lt_or_ge jj s.k with hlt | hge
              · obtain ⟨iA, ic, hG, hil, hir⟩ := HIR.out jj hlt
                obtain ⟨G', hgy, hGe⟩ := hlo.frs
                obtain ⟨gy, hgye⟩ := hgy.some_of (by omega)
                subst hgye
                have HIRR := Lib.hid hir
                have HGG := Lib.hid hG
                have HLO := Lib.hid hlo
                have HKQ := Lib.hid hkq
                have hji : (jj : Int) < (s.k : Int) := by omega
                have uj : IntKind.i64.wrap ((jj : Int) + 1) = (jj : Int) + 1 := IntWalk.i64_in _ (by omega)
                clear hlo hkq hgy hGe hir hG
                go_wp2_with fail
                go_loopw [10] (fun i wq => ∃ mm : Nat, i = .int .i64 (mm : Int) ∧ mm ≤ (s.D jj).n ∧ Loose wq wz.heap.size (.slice xA s.n xc) s.n (.slice (some ⟨gy, 0, none⟩) s.k yc) s.k G s.D ∧ Kept (SR wz.heap.size w3.heap.size) w4 wq) (fun i _ => (s.D jj).n - (intOf i).toNat)
                case atStart => exact ⟨0, rfl, by omega, HLO.out, HKQ.out⟩
                case round =>
                  obtain ⟨mm, rfl, hmm, hlo, hkq⟩ := hrel
                  obtain ⟨G', hgy, hGe⟩ := hlo.frs
                  obtain ⟨t1, t2⟩ := hgy.frCell (i := jj * 5 + 1) (by omega)
                  obtain ⟨t3, t4⟩ := hgy.frCell (i := jj * 5 + 3) (by omega)
                  rw [hGe jj hlt, HGG.out] at t1
                  rcases Nat.lt_or_ge mm (s.D jj).n with hlm | hgm
                  · obtain ⟨F, hi⟩ := hlo.ins jj hlt
                    rw [HGG.out] at hi
                    obtain ⟨gi, hgi⟩ := hi.some_of (by omega)
                    subst hgi
                    obtain ⟨t5, t6⟩ := hi.cellAt hlm
                    have HL8 := Lib.hid (hlo.put8 (g := gi) (j := mm) (fun e => own_types hi hgy (by decide) gi rfl e))
                    have HK8 := Lib.hid (hkq.setCell (p := ⟨gi, mm, none⟩) (.inl (HIRR.out gi rfl)) (.int .u8 1))
                    have hmi : (mm : Int) < ((s.D jj).n : Int) := by omega
                    have um : IntKind.i64.wrap ((mm : Int) + 1) = (mm : Int) + 1 := IntWalk.i64_in _ (by omega)
                    clear hi hgy hlo hkq hGe t2 t3 t4
                    go_wp2_with fail
                    go_roundw
                    case rel => exact ⟨mm + 1, by go_num, by omega, HL8.out, HK8.out⟩
                    case measure => simp [intOf]; omega
                  · have hmi : ((s.D jj).n : Int) ≤ (mm : Int) := by omega
                    have HL7 := Lib.hid (hlo.put7 (q := jj))
                    have HK7 := Lib.hid (hkq.setCell (p := ⟨gy, jj * 5 + 3, none⟩) (.inl (HYR.out gy rfl)) (.int .i64 7))
                    clear hgy hlo hkq hGe t2
                    go_wp2_with fail
                    go_roundw
                    case rel => exact ⟨jj + 1, by go_num, by omega, HL7.out, HK7.out⟩
                    case measure => simp [intOf]; omega
              · have g3 : (s.k : Int) ≤ (jj : Int) := by omega
                have hK0 : Kept S0 wz wr := Kept.trans_ (S' := SR wz.heap.size w3.heap.size) HK4.out hkq (fun i hi => .inr hi.1)
                have HK0 := Lib.hid hK0
                have HZQ := Lib.hid (HZ.out.kept hkq (fun g hg e => by have := (HZ.out.lt g hg).1; have := e.2; omega))
                have FM := Lib.hid (frames_is (HS.out.kept0 hK0) HW.out)
                clear hlo hkq hK0
                go_wp2_with fail
                refine FM.out.mono ?_
                rintro e w6 ⟨y6, G6, rfl, hy6, hN6, hk6⟩
                obtain ⟨yB, yd, rfl, _, _, _⟩ := hy6.out
                have HY6 := Lib.hid hy6
                have HN6 := Lib.hid hN6
                have HK6 := Lib.hid (HK0.out.then0 hk6)
                have HZ6 := Lib.hid (HZQ.out.kept hk6 (fun _ _ x => x))
                clear hy6 hN6 hk6 FM
                go_wp2_with fail
                go_loopw [12] (fun i wq => ∃ jj : Nat, i = .int .i64 (jj : Int) ∧ jj ≤ s.k ∧ wq = w6) (fun i _ => s.k - (intOf i).toNat)
                case atStart => exact ⟨0, rfl, by omega, by first | trivial | rfl⟩
                case round =>
                  obtain ⟨jj, rfl, hjj, rfl⟩ := hrel
                  rcases Nat.lt_or_ge jj s.k with hlt | hge
                  · obtain ⟨g6, hg6⟩ := HY6.out.some_of (by omega)
                    subst hg6
                    have hc6 := (HY6.out.frCell (i := jj * 5 + 3) (by omega)).1
                    obtain ⟨x7, y7, hf7, _⟩ := HN6.out jj hlt
                    rw [hf7.f3] at hc6
                    have hle := HW.out.le jj hlt
                    have hh : ((s.D jj).h : Int) ≤ (s.n : Int) := by omega
                    have hji : (jj : Int) < (s.k : Int) := by omega
                    have uj : IntKind.i64.wrap ((jj : Int) + 1) = (jj : Int) + 1 := IntWalk.i64_in _ (by omega)
                    clear hf7
                    go_wp2_with fail
                    go_roundw
                    case rel => exact ⟨jj + 1, by go_num, by omega, by first | trivial | rfl⟩
                    case measure => simp [intOf]; omega
                  · have g6 : (s.k : Int) ≤ (jj : Int) := by omega
                    have V6 := Lib.hid (values_is (HS.out.kept0 HK6.out) HW.out.n)
                    go_wp2_with fail
                    refine V6.out.mono ?_
                    rintro e w7 ⟨v7, rfl, hv7, hk7⟩
                    obtain ⟨vA, vc, rfl, hvc⟩ := came_own (S := S0) hv7 (fun _ _ x => x) HW.out.n
                    obtain ⟨_, _, hze, hzc⟩ := came_own (S := S0) (HZ6.out.kept hk7 (fun _ _ x => x)) (fun _ _ x => x) HW.out.n
                    cases hze
                    have TY := Lib.hid (types_same vA zA s.n vc zc s.v s.v w7 hvc.at hzc.at (by have := HW.out.n; omega) (fun _ _ => rfl))
                    have HK7 := Lib.hid (HK6.out.then0 hk7)
                    clear hv7 hk7 hvc hzc V6
                    go_wp2_with fail
                    refine TY.out.mono ?_
                    rintro e w8 ⟨rfl, hk8⟩
                    go_wp2_with fail
                    refine (lives_any _).mono ?_
                    rintro e w9 ⟨rfl, hk9⟩
                    go_wp2_with fail
                    go_ret
                    exact ⟨rfl, Kept.toS0 (HK.out.then0 ((HK7.out.then0 hk8).then0 hk9))⟩
end Go.Proofs.Ytpbaojjcbpfdaaa
