/- The walk of the statement TabCopies. No condition. -/
import Derived.Test.YtpeekldngelkkaaTabK
import Derived.Deep.RegionHeld3
namespace Go.Proofs.Ytpeekldngelkkaa
open Go.RowKit

set_option maxHeartbeats 40000000 in
set_option maxRecDepth 100000 in
theorem copies_any (n x y k : Nat) (w : World) (hn : n ≤ 255) (hx : x ≤ 255) (hy : y ≤ 255) (hk : k ≤ 255) :
    Calls Try.prog 3 #[.int .u8 (n : Int), .int .u8 (x : Int), .int .u8 (y : Int), .int .u8 (k : Int)] w fun e w' => e = .returned (.bool true) ∧ Kept S0 w w' := by
  have u0 : IntKind.i64.wrap (n : Int) = (n : Int) := IntWalk.i64_in _ (by omega)
  have u1 : IntKind.i64.wrap (x : Int) = (x : Int) := IntWalk.i64_in _ (by omega)
  have u2 : IntKind.i64.wrap (y : Int) = (y : Int) := IntWalk.i64_in _ (by omega)
  have u3 : IntKind.i64.wrap (k : Int) = (k : Int) := IntWalk.i64_in _ (by omega)
  have v1 : IntKind.u32.wrap (x : Int) = (x : Int) := IntWalk.u32_in _ (by omega)
  have v2 : IntKind.u32.wrap (y : Int) = (y : Int) := IntWalk.u32_in _ (by omega)
  have v3 : IntKind.u32.wrap (k : Int) = (k : Int) := IntWalk.u32_in _ (by omega)
  have v4 : IntKind.i64.wrap ((x : Int) + (k : Int)) = (x : Int) + (k : Int) := IntWalk.i64_in _ (by omega)
  have v5 : IntKind.i64.wrap ((y : Int) + (k : Int)) = (y : Int) + (k : Int) := IntWalk.i64_in _ (by omega)
  go_enter Try.func3, Try.ntmps3
  go_wp2_with fail
  refine (some_any n (by omega) _).mono ?_
  rintro e w1 ⟨tb, lv, rfl, hm1, hk1⟩
  go_wp2_with fail
  refine (all_made hm1 (by omega)).mono ?_
  rintro e w2 ⟨was, rfl, ho2, hk2⟩
  have hm2 := hm1.kept0 hk2
  have hk3 := hk1.then0 hk2
  have hsep : ∀ g, was.ownBlock = some g → lv.ownBlock ≠ some g := fun g h1 h2 => by have := (ho2.lt g h1).1; have := (hm1.own.lt g h2).2; omega
  have hsz := hk1.size
  clear hm1 hk1 hk2
  go_wp2_with fail
  by_cases hout : x + k ≤ n ∧ y + k ≤ n
  · obtain ⟨hx1, hy1⟩ := hout
    refine (copy_in x y k hm2 hm2 (by omega) (by omega) hx1 hy1).mono ?_
    rintro e w4 ⟨rfl, hm4, hk4⟩
    have hk5 : Kept S0 w w4 := hk3.trans_ hk4 (fun i hi => .inr (hm2.own.lt i hi).1)
    have ho4 := ho2.kept hk4 (fun g hg e => hsep g hg e)
    clear hm2 ho2 hk4 hk3 hsep
    go_wp2_with fail
    refine (all_made hm4 (by omega)).mono ?_
    rintro e w5 ⟨now, rfl, ho5, hk6⟩
    have ho6 := ho4.kept hk6 (fun _ _ x => x)
    have hk7 := hk5.then0 hk6
    clear ho4 hk6 hk5 hm4
    obtain ⟨A, c, rfl, hc1, hc2, _⟩ := ho6.out
    obtain ⟨B, d, rfl, hd1, hd2, _⟩ := ho5.out
    unfold maxLen at hc2 hd2
    obtain ⟨A1, a1, b1⟩ := run_cutS (P := Try.prog) 24 43 3 Try.underlying24 Try.sizeV B n d .i64 .i64 (x : Int) ((x : Int) + (k : Int)) x k rfl (by omega) (by omega)
    obtain ⟨A2, a2, b2⟩ := run_cutS (P := Try.prog) 24 43 3 Try.underlying24 Try.sizeV A n c .i64 .i64 (y : Int) ((y : Int) + (k : Int)) y k rfl (by omega) (by omega)
    obtain ⟨A3, a3, b3⟩ := run_cutS_h (P := Try.prog) 24 43 3 Try.underlying24 Try.sizeV B n d .i64 (x : Int) x rfl (by omega)
    obtain ⟨A4, a4, b4⟩ := run_cutS_h (P := Try.prog) 24 43 3 Try.underlying24 Try.sizeV A n c .i64 (x : Int) x rfl (by omega)
    obtain ⟨A5, a5, b5⟩ := run_cutS_l (P := Try.prog) 24 43 3 Try.underlying24 Try.sizeV B n d .i64 ((x : Int) + (k : Int)) (x + k) (by omega) hx1
    obtain ⟨A6, a6, b6⟩ := run_cutS_l (P := Try.prog) 24 43 3 Try.underlying24 Try.sizeV A n c .i64 ((x : Int) + (k : Int)) (x + k) (by omega) hx1
    have T1 := Lib.hid (show ∀ w', Kept S0 w5 w' → Calls Try.prog 12 #[.slice A1 k (d - x), .slice A2 k (c - y)] w' fun e w'' => e = .returned (.bool true) ∧ Kept S0 w' w'' from fun w' h => by
      obtain ⟨_, _, e1, _, _, s1⟩ := (ho5.kept h (fun _ _ x => x)).out
      obtain ⟨_, _, e2, _, _, s2⟩ := (ho6.kept h (fun _ _ x => x)).out
      cases e1
      cases e2
      refine values_same A1 A2 k (d - x) (c - y) (fun i => overV (someX n) x k (fun i => someX n (y + i)) (x + i)) (fun i => someX n (y + i)) w' (by rw [b1]; exact (s1.cutS 3 (k := x) (m := k) (by omega) hd1).congr (fun i _ => vcell_shift _ x i)) (by rw [b2]; exact (s2.cutS 3 (k := y) (m := k) (by omega) hc1).congr (fun i _ => vcell_shift _ y i)) (by omega) (fun i hi => ?_)
      show overV (someX n) x k _ (x + i) = _
      unfold overV
      rw [if_pos (by omega), show x + i - x = i by omega])
    have T2 := Lib.hid (show ∀ w', Kept S0 w5 w' → Calls Try.prog 12 #[.slice A3 x d, .slice A4 x c] w' fun e w'' => e = .returned (.bool true) ∧ Kept S0 w' w'' from fun w' h => by
      obtain ⟨_, _, e1, _, _, s1⟩ := (ho5.kept h (fun _ _ x => x)).out
      obtain ⟨_, _, e2, _, _, s2⟩ := (ho6.kept h (fun _ _ x => x)).out
      cases e1
      cases e2
      refine values_same A3 A4 x d c _ _ w' (by rw [b3]; exact s1.cutS0 3 (m := x) (by omega) hd1) (by rw [b4]; exact s2.cutS0 3 (m := x) (by omega) hc1) (by omega) (fun i hi => ?_)
      unfold overV
      rw [if_neg (by omega)])
    have T3 := Lib.hid (show ∀ w', Kept S0 w5 w' → Calls Try.prog 12 #[.slice A5 (n - (x + k)) (d - (x + k)), .slice A6 (n - (x + k)) (c - (x + k))] w' fun e w'' => e = .returned (.bool true) ∧ Kept S0 w' w'' from fun w' h => by
      obtain ⟨_, _, e1, _, _, s1⟩ := (ho5.kept h (fun _ _ x => x)).out
      obtain ⟨_, _, e2, _, _, s2⟩ := (ho6.kept h (fun _ _ x => x)).out
      cases e1
      cases e2
      refine values_same A5 A6 (n - (x + k)) (d - (x + k)) (c - (x + k)) (fun i => overV (someX n) x k (fun i => someX n (y + i)) (x + k + i)) (fun i => someX n (x + k + i)) w' (by rw [b5]; exact (s1.cutS 3 (k := x + k) (m := n - (x + k)) (by omega) hd1).congr (fun i _ => vcell_shift _ (x + k) i)) (by rw [b6]; exact (s2.cutS 3 (k := x + k) (m := n - (x + k)) (by omega) hc1).congr (fun i _ => vcell_shift _ (x + k) i)) (by omega) (fun i hi => ?_)
      show overV (someX n) x k _ (x + k + i) = _
      unfold overV
      rw [if_neg (by omega)])
    clear b1 b2 b3 b4 b5 b6 ho5 ho6
    generalize d - x = z1 at a1 T1
    generalize c - y = z2 at a2 T1
    generalize n - (x + k) = z5 at a5 a6 T3
    generalize d - (x + k) = z3 at a5 T3
    generalize c - (x + k) = z4 at a6 T3
    have hkc := (Kept.refl S0 w5).drew
    go_wp2_with fail
    go_region_held3 (fun _ => True) (trivial)
      (first
      | (go_at_call 12; (first | (with_reducible refine (T1.out _ hkc).mono ?_) | (with_reducible refine (T2.out _ hkc).mono ?_) | (with_reducible refine (T3.out _ hkc).mono ?_)); rintro e w6 ⟨rfl, hk⟩; have hkc := hkc.then0 hk; clear hk)
      | (go_at_call 13; refine (lives_any _).mono ?_; rintro e w6 ⟨rfl, hk⟩; have hkc := hkc.then0 hk; clear hk))
    all_goals
      go_wp2
      go_ret
      exact ⟨rfl, hk7.then0 hkc⟩
  · have hout' : inB x k n = false ∨ inB y k n = false := by
      unfold inB
      by_cases h : x + k ≤ n
      · exact .inr (decide_eq_false (by omega))
      · exact .inl (decide_eq_false (by omega))
    refine (copy_out x y k hm2 hm2 (by omega) (by omega) (by omega) (by omega) (by omega) (by omega) (by omega) (by omega) hout').mono ?_
    rintro e w4 ⟨rfl, hk4⟩
    have hm4 := hm2.kept0 hk4
    have ho4 := ho2.kept hk4 (fun _ _ x => x)
    have hk5 := hk3.then0 hk4
    clear hm2 ho2 hk4 hk3 hsep
    go_wp2_with fail
    refine (all_made hm4 (by omega)).mono ?_
    rintro e w5 ⟨now, rfl, ho5, hk6⟩
    have ho6 := ho4.kept hk6 (fun _ _ x => x)
    have hk7 := hk5.then0 hk6
    clear ho4 hk6 hk5 hm4
    obtain ⟨A, c, rfl, hc1, hc2, hsA⟩ := ho6.out
    obtain ⟨B, d, rfl, hd1, hd2, hsB⟩ := ho5.out
    unfold maxLen at hc2 hd2
    have T1 := Lib.hid (show ∀ w', Kept S0 w5 w' → Calls Try.prog 12 #[.slice B n d, .slice A n c] w' fun e w'' => e = .returned (.bool true) ∧ Kept S0 w' w'' from fun w' h => by
      obtain ⟨_, _, e1, _, _, s1⟩ := (ho5.kept h (fun _ _ x => x)).out
      obtain ⟨_, _, e2, _, _, s2⟩ := (ho6.kept h (fun _ _ x => x)).out
      cases e1
      cases e2
      exact values_same B A n d c _ _ w' s1 s2 (by omega) (fun _ _ => rfl))
    clear hsA hsB ho5 ho6
    have hcase : n < x + k ∨ (x + k ≤ n ∧ n < y + k) := by omega
    rcases hcase with h1 | ⟨h1, h2⟩
    all_goals
      go_wp2_with fail
      refine (T1.out _ (Kept.refl S0 _)).mono ?_
      rintro e w6 ⟨rfl, hk8⟩
      go_wp2_with fail
      refine (lives_any _).mono ?_
      rintro e w7 ⟨rfl, hk9⟩
      go_wp2_with fail
      go_ret
      exact ⟨rfl, (hk7.then0 hk8).then0 hk9⟩
end Go.Proofs.Ytpeekldngelkkaa
