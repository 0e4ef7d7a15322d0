/- The walk of the statement TabFresh. No condition. -/
import Derived.Test.YtpeekldngelkkaaTabK
import Derived.Test.YtpeekldngelkkaaTabQ
namespace Go.Proofs.Ytpeekldngelkkaa
open Go.RowKit

/-- Own memory of values, whatever they are. -/
def Loose (w : World) (B : Nat) (x : Value) (n : Nat) : Prop := ∃ F, Own w B 43 3 AnyV x n F

theorem Loose.put {w : World} {B n g i : Nat} {c : Nat} (h : Loose w B (.slice (some ⟨g, 0, none⟩) n c) n) (u : Value) : Loose (w.setCell ⟨g, i, none⟩ u) B (.slice (some ⟨g, 0, none⟩) n c) n := by
  obtain ⟨F, h⟩ := h
  rcases h with ⟨e, _⟩ | ⟨g1, c1, fr, e, k2, k3, k4, k5, k6, k7⟩
  · cases e
  · cases e
    exact ⟨_, .inr ⟨g, c, _, rfl, k2, k3, k4, k5.set i u, fun _ _ => rfl, fun _ _ => trivial⟩⟩

theorem Loose.cells {w : World} {B n k : Nat} {x : Value} (h : Loose w B x n) (hk : k < n) : ∃ g c, x = .slice (some ⟨g, 0, none⟩) n c ∧ ∀ j, j < 3 → (∃ u, w.cell? ⟨g, k * 3 + j, none⟩ = some u) ∧ w.frozen? ⟨g, k * 3 + j, none⟩ = false := by
  obtain ⟨F, h⟩ := h
  rcases h with ⟨_, e⟩ | ⟨g1, c1, fr, e, k2, k3, k4, k5, k6, k7⟩
  · omega
  · exact ⟨g1, c1, e, fun j hj => ⟨⟨_, k5.cell (by omega)⟩, k5.frozen _⟩⟩

theorem Loose.kept {w w' : World} {B n : Nat} {x : Value} {S : Nat → Prop} (h : Loose w B x n) (hk : Kept S w w') (hS : ∀ g, x.ownBlock = some g → ¬ S g) : Loose w' B x n := by
  obtain ⟨F, h⟩ := h
  exact ⟨F, h.kept hk hS⟩

structure FrRel (w0 w : World) (tb b0 b1 n : Nat) (lv was x : Value) (f : Nat → V3) (bx m : Nat) : Prop where
  tab : TabAt w tb b0 n 112 (n : Int) 0 false lv f
  ow : Own w b1 43 3 AnyV was n (vcell f)
  lo : Loose w bx x m
  kept : Kept S0 w0 w
  s1 : ∀ g, x.ownBlock = some g → lv.ownBlock ≠ some g
  s2 : ∀ g, x.ownBlock = some g → was.ownBlock ≠ some g
  low : w0.heap.size ≤ bx

theorem FrRel.put {w0 w : World} {tb b0 b1 n m bx g k c : Nat} {lv was : Value} {f : Nat → V3} (h : FrRel w0 w tb b0 b1 n lv was (.slice (some ⟨g, 0, none⟩) m c) f bx m) (a b d : Value) :
    FrRel w0 (((w.setCell ⟨g, k * 3, none⟩ a).setCell ⟨g, k * 3 + 1, none⟩ b).setCell ⟨g, k * 3 + 2, none⟩ d) tb b0 b1 n lv was (.slice (some ⟨g, 0, none⟩) m c) f bx m := by
  have hk : Kept (S1 g) w (((w.setCell ⟨g, k * 3, none⟩ a).setCell ⟨g, k * 3 + 1, none⟩ b).setCell ⟨g, k * 3 + 2, none⟩ d) :=
    (((Kept.refl (S1 g) w).setCell (p := ⟨g, k * 3, none⟩) (.inl rfl) _).setCell (p := ⟨g, k * 3 + 1, none⟩) (.inl rfl) _).setCell (p := ⟨g, k * 3 + 2, none⟩) (.inl rfl) _
  have hlo := h.lo
  obtain ⟨F, hF⟩ := hlo
  refine ⟨h.tab.kept hk (fun e => ?_) (fun g' hg e => h.s1 g rfl (e ▸ hg)), h.ow.kept hk (fun g' hg e => h.s2 g rfl (e ▸ hg)), ((h.lo.put _).put _).put _, h.kept.trans_ hk (fun i hi => .inr ?_), h.s1, h.s2, h.low⟩
  · exact hF.ne_blk h.tab.obj (by decide) (by rw [show tb = g from e]; rfl)
  · have := (hF.lt g rfl).1
    rw [show i = g from hi]
    exact Nat.le_trans h.low this

set_option maxHeartbeats 1600000 in
set_option maxRecDepth 100000 in
theorem fresh_any (n : Nat) (A : Option Addr) (m c : Nat) (v : Nat → V3) (w : World) (hn : n ≤ 255) (hA : Sl w A (m * 3) (vcell v)) (hA0 : A = none → m = 0) (hmB : m * 24 ≤ 140737488351232) :
    Calls Try.prog 6 #[.int .u8 (n : Int), .slice A m c] w fun e w' => e = .returned (.bool true) ∧ Kept S0 w w' := by
  have u0 : IntKind.i64.wrap (n : Int) = (n : Int) := IntWalk.i64_in _ (by omega)
  have HA := Lib.hid hA
  have HA0 := Lib.hid hA0
  clear hA hA0
  go_enter Try.func6, Try.ntmps6
  go_wp2_with fail
  refine (some_any n (by omega) _).mono ?_
  rintro e w1 ⟨tb, lv, rfl, hm1, hk1⟩
  go_wp2_with fail
  refine (all_made hm1 (by omega)).mono ?_
  rintro e w2 ⟨was, rfl, ho2, hk2⟩
  have hm2 := hm1.kept0 hk2
  go_wp2_with fail
  refine (all_made hm2 (by omega)).mono ?_
  rintro e w3 ⟨x, rfl, hx3, hk3⟩
  obtain ⟨xA, xc, rfl, _, _, _⟩ := hx3.out
  have HR := Lib.hid (show FrRel w w3 tb w.heap.size w1.heap.size n lv was (.slice xA n xc) (someX n) w2.heap.size n from ⟨hm2.kept0 hk3, ho2.kept hk3 (fun _ _ x => x), ⟨_, hx3⟩, (hk1.then0 hk2).then0 hk3, fun g h1 h2 => by have := (hx3.lt g h1).1; have := (hm2.own.lt g h2).2; omega, fun g h1 h2 => by have := (hx3.lt g h1).1; have := (ho2.lt g h2).2; omega, Nat.le_trans hk1.size hk2.size⟩)
  have hsz1 : w.heap.size ≤ w1.heap.size := hk1.size
  clear hm1 hk1 ho2 hk2 hm2 hx3 hk3
  go_wp2_with fail
  go_loopw [8] (fun i wr => ∃ j : Nat, i = .int .i64 (j : Int) ∧ j ≤ n ∧ FrRel w wr tb w.heap.size w1.heap.size n lv was (.slice xA n xc) (someX n) w2.heap.size n) (fun i _ => n - (intOf i).toNat)
  case atStart => exact ⟨0, rfl, by omega, HR.out⟩
  case round =>
    clear HR
    obtain ⟨j, rfl, hj, hr⟩ := hrel
    obtain ⟨wz, hwz⟩ : ∃ wz, wz = wr := ⟨_, rfl⟩
    subst hwz
    rcases Nat.lt_or_ge j n with hlt | hge
    · obtain ⟨g, cc, hxe, hc⟩ := hr.lo.cells hlt
      cases hxe
      obtain ⟨⟨a0, e0⟩, z0⟩ := hc 0 (by omega)
      obtain ⟨⟨a1, e1⟩, z1⟩ := hc 1 (by omega)
      obtain ⟨⟨a2, e2⟩, z2⟩ := hc 2 (by omega)
      rw [Nat.add_zero] at e0 z0
      have HR := Lib.hid (hr.put (k := j) (.int .u8 0) (.int .u64 0) (.int .u64 0))
      have hji : (j : Int) < (n : Int) := by omega
      have uj : IntKind.i64.wrap ((j : Int) + 1) = (j : Int) + 1 := IntWalk.i64_in _ (by omega)
      clear hr hc
      go_wp2_with fail
      go_roundw
      case rel => exact ⟨j + 1, by go_num, by omega, HR.out⟩
      case measure => simp [intOf]; omega
    · have hji : (n : Int) ≤ (j : Int) := by omega
      have CV := Lib.hid (copyvals_any A m c v wz (HA.out.slb.kept hr.kept (Nat.le_refl _) (fun _ h => h.elim)).sl HA0.out hmB)
      have HR := Lib.hid hr
      have hws : w1.heap.size ≤ w1.heap.size := Nat.le_refl _
      clear hr
      go_wp2_with fail
      refine CV.out.mono ?_
      rintro e w4 ⟨y, rfl, hy4, hk4⟩
      obtain ⟨yA, yc, rfl, hyc, _, hys⟩ := hy4.out
      have hm4 := HR.out.tab.kept0 hk4
      have ho4 := HR.out.ow.kept hk4 (fun _ _ x => x)
      have hkk4 := HR.out.kept.then0 hk4
      have hsy1 : ∀ g, (Value.slice yA m yc).ownBlock = some g → lv.ownBlock ≠ some g := fun g h1 h2 => by have := (hy4.lt g h1).1; have := (HR.out.tab.own.lt g h2).2; omega
      have hsy2 : ∀ g, (Value.slice yA m yc).ownBlock = some g → was.ownBlock ≠ some g := fun g h1 h2 => by have := (hy4.lt g h1).1; have := (HR.out.ow.lt g h2).2; omega
      have hlow4 : w.heap.size ≤ wz.heap.size := HR.out.kept.size
      obtain ⟨q, hq⟩ : ∃ q, (m = q ∧ m ≤ n) ∨ (n = q ∧ n < m) := by
        by_cases h : n < m
        · exact ⟨n, .inr ⟨rfl, h⟩⟩
        · exact ⟨m, .inl ⟨rfl, by omega⟩⟩
      have hq1 : q ≤ n := by omega
      have hq2 : q ≤ m := by omega
      have uq : IntKind.u32.wrap (q : Int) = (q : Int) := IntWalk.u32_in _ (by omega)
      have HQ := Lib.hid hq
      have HY4 := Lib.hid hy4
      have HS1 := Lib.hid hsy1
      have HS2 := Lib.hid hsy2
      have HM4 := Lib.hid hm4
      have HO4 := Lib.hid ho4
      have HKK4 := Lib.hid hkk4
      have HYS := Lib.hid hys
      clear hq hy4 hk4 CV HR hsy1 hsy2 hm4 ho4 hkk4 hys
      cases hbad : badB v m 112 with
      | true =>
        have HI := Lib.hid (init_bad 0 0 q yA m yc v HM4.out (.inl rfl) HYS.out (by omega) hbad)
        clear hbad
        rcases HQ.out with ⟨hqe, hlt⟩ | ⟨hqe, hlt⟩
        all_goals
         (cases hqe
          clear HQ
          go_wp2_with fail
          refine HI.out.mono ?_
          rintro e w5 ⟨rfl, hk5⟩
          clear hlt)
        all_goals
          have HR := Lib.hid (show FrRel w w5 tb w.heap.size w1.heap.size n lv was (.slice yA m yc) (someX n) wz.heap.size m from ⟨HM4.out.kept0 hk5, HO4.out.kept hk5 (fun _ _ x => x), ⟨_, HY4.out.kept hk5 (fun _ _ x => x)⟩, HKK4.out.then0 hk5, HS1.out, HS2.out, hlow4⟩)
          clear hk5 HI
          go_wp2_with fail
          go_loopw [10] (fun i wr' => ∃ j : Nat, i = .int .i64 (j : Int) ∧ j ≤ m ∧ FrRel w wr' tb w.heap.size w1.heap.size n lv was (.slice yA m yc) (someX n) wz.heap.size m) (fun i _ => m - (intOf i).toNat)
          case atStart => exact ⟨0, rfl, by omega, HR.out⟩
          case round =>
            clear HR
            obtain ⟨j, rfl, hj, hr⟩ := hrel
            rcases Nat.lt_or_ge j m with hlt | hge
            · obtain ⟨g, cc, hxe, hc⟩ := hr.lo.cells hlt
              cases hxe
              obtain ⟨⟨a0, e0⟩, z0⟩ := hc 0 (by omega)
              obtain ⟨⟨a1, e1⟩, z1⟩ := hc 1 (by omega)
              obtain ⟨⟨a2, e2⟩, z2⟩ := hc 2 (by omega)
              rw [Nat.add_zero] at e0 z0
              have HR := Lib.hid (hr.put (k := j) (.int .u8 0) (.int .u64 0) (.int .u64 0))
              have hji : (j : Int) < (m : Int) := by omega
              have uj : IntKind.i64.wrap ((j : Int) + 1) = (j : Int) + 1 := IntWalk.i64_in _ (by omega)
              clear hr hc
              go_wp2_with fail
              go_roundw
              case rel => exact ⟨j + 1, by go_num, by omega, HR.out⟩
              case measure => simp [intOf]; omega
            · have hji : (m : Int) ≤ (j : Int) := by omega
              have HR := Lib.hid hr
              have AM := Lib.hid (all_made hr.tab (by omega))
              clear hr
              go_wp2_with fail
              refine AM.out.mono ?_
              rintro e w90 ⟨now, rfl, hn90, hk⟩
              have ho90 := HR.out.ow.kept hk (fun _ _ x => x)
              have hkk90 := HR.out.kept.then0 hk
              obtain ⟨A2, c2, rfl, hc1, hc2, s1⟩ := ho90.out
              obtain ⟨B2, d2, rfl, hd1, hd2, s2⟩ := hn90.out
              have VS := Lib.hid (values_same B2 A2 n d2 c2 _ _ w90 s2 s1 (by omega) (fun _ _ => rfl))
              clear hk ho90 hn90 s1 s2 HR AM
              go_wp2_with fail
              refine VS.out.mono ?_
              rintro e w91 ⟨rfl, hk91⟩
              go_wp2_with fail
              refine (lives_any _).mono ?_
              rintro e w92 ⟨rfl, hk92⟩
              go_wp2_with fail
              go_ret
              exact ⟨rfl, (hkk90.then0 hk91).then0 hk92⟩
      | false =>
        have HI := Lib.hid (init_in 0 0 q yA m yc v HM4.out (by omega) (.inl rfl) HYS.out (by omega) hyc hbad (by omega) (by omega) (by omega))
        clear hbad
        rcases HQ.out with ⟨hqe, hlt⟩ | ⟨hqe, hlt⟩
        all_goals
         (cases hqe
          clear HQ
          go_wp2_with fail
          refine HI.out.mono ?_
          rintro e w5 ⟨rfl, hm5, hk5⟩
          clear hlt)
        all_goals
          have hy5 := HY4.out.kept hk5 (fun g hg e => HS1.out g hg e)
          have hkk5 := HKK4.out.trans_ hk5 (fun i hi => .inr (HM4.out.own.lt i hi).1)
          have HS3 := Lib.hid (fun g hg => (hy5.lt g hg).2)
          go_wp2_with fail
          refine (all_made hm5 (by omega)).mono ?_
          rintro e w6 ⟨was6, rfl, ho6, hk6⟩
          obtain ⟨F5, hF5⟩ : ∃ F, TabAt w6 tb w.heap.size n 112 (n : Int) 0 false lv F ∧ Own w6 w5.heap.size 43 3 AnyV was6 n (vcell F) := ⟨_, hm5.kept0 hk6, ho6⟩
          have HR := Lib.hid (show FrRel w w6 tb w.heap.size w5.heap.size n lv was6 (.slice yA m yc) F5 wz.heap.size m from ⟨hF5.1, hF5.2, ⟨_, hy5.kept hk6 (fun _ _ x => x)⟩, hkk5.then0 hk6, HS1.out, fun g h1 h2 => by have := (ho6.lt g h2).1; have := HS3.out g h1; omega, hlow4⟩)
          clear hm5 hk5 hy5 hkk5 ho6 hk6 HI hF5
          go_wp2_with fail
          go_loopw [10] (fun i wr' => ∃ j : Nat, i = .int .i64 (j : Int) ∧ j ≤ m ∧ FrRel w wr' tb w.heap.size w5.heap.size n lv was6 (.slice yA m yc) F5 wz.heap.size m) (fun i _ => m - (intOf i).toNat)
          case atStart => exact ⟨0, rfl, by omega, HR.out⟩
          case round =>
            clear HR
            obtain ⟨j, rfl, hj, hr⟩ := hrel
            rcases Nat.lt_or_ge j m with hlt | hge
            · obtain ⟨g, cc, hxe, hc⟩ := hr.lo.cells hlt
              cases hxe
              obtain ⟨⟨a0, e0⟩, z0⟩ := hc 0 (by omega)
              obtain ⟨⟨a1, e1⟩, z1⟩ := hc 1 (by omega)
              obtain ⟨⟨a2, e2⟩, z2⟩ := hc 2 (by omega)
              rw [Nat.add_zero] at e0 z0
              have HR := Lib.hid (hr.put (k := j) (.int .u8 0) (.int .u64 0) (.int .u64 0))
              have hji : (j : Int) < (m : Int) := by omega
              have uj : IntKind.i64.wrap ((j : Int) + 1) = (j : Int) + 1 := IntWalk.i64_in _ (by omega)
              clear hr hc
              go_wp2_with fail
              go_roundw
              case rel => exact ⟨j + 1, by go_num, by omega, HR.out⟩
              case measure => simp [intOf]; omega
            · have hji : (m : Int) ≤ (j : Int) := by omega
              have HR := Lib.hid hr
              have AM := Lib.hid (all_made hr.tab (by omega))
              clear hr
              go_wp2_with fail
              refine AM.out.mono ?_
              rintro e w90 ⟨now, rfl, hn90, hk⟩
              have ho90 := HR.out.ow.kept hk (fun _ _ x => x)
              have hkk90 := HR.out.kept.then0 hk
              obtain ⟨A2, c2, rfl, hc1, hc2, s1⟩ := ho90.out
              obtain ⟨B2, d2, rfl, hd1, hd2, s2⟩ := hn90.out
              have VS := Lib.hid (values_same B2 A2 n d2 c2 _ _ w90 s2 s1 (by omega) (fun _ _ => rfl))
              clear hk ho90 hn90 s1 s2 HR AM
              go_wp2_with fail
              refine VS.out.mono ?_
              rintro e w91 ⟨rfl, hk91⟩
              go_wp2_with fail
              refine (lives_any _).mono ?_
              rintro e w92 ⟨rfl, hk92⟩
              go_wp2_with fail
              go_ret
              exact ⟨rfl, (hkk90.then0 hk91).then0 hk92⟩
end Go.Proofs.Ytpeekldngelkkaa
