/- What the proofs lean on, part 1 of Ty. No condition. -/
import Derived.Test.YtlnkdnmeikpckaaGreatMSta
import Derived.Test.YtlnkdnmeikpckaaGreatMStb
import Derived.Test.YtlnkdnmeikpckaaGreatMStf
import Derived.WalkKit
import Derived.WalkSpells
import Derived.WalkLawsBesides
import Derived.BigQuiet
import Derived.Deep.QuietTactic
import Derived.Deep.OwnRows
import Derived.Deep.Draws
import Derived.Laws.OwnMore
import Derived.Laws.Rows
import Derived.Lib.Hide
import Derived.Deep.RegionHeld3
import Derived.Lib.SliceRun
namespace Go.Proofs.YtlnkdnmeikpckaaGreat
open Go.RowKit
set_option maxRecDepth 100000
section
variable {S S' : Nat → Prop} {a w w' : World}
theorem Kept.below (h : Kept S a w) {B : Nat} (hB : B ≤ a.heap.size) (hs : ∀ k, S k → B ≤ k) : Below B a w :=
  ⟨h.os, h.tape, h.output, h.size, fun k hk => h.block k (by omega) (fun x => by have := hs k x; omega)⟩
theorem Kept.below0 (h : Kept S0 a w) : Below a.heap.size a w := h.below (Nat.le_refl _) (fun _ x => x.elim)
end
end Go.Proofs.YtlnkdnmeikpckaaGreat
namespace Go.Proofs.YtlnkdnmeikpckaaGreat
open Go.RowKit
set_option maxRecDepth 100000
/-- Is a value one of its type, whose function is there? -/
def rightB (nf : Nat) (x : V3) : Bool := hasB x.t x.lo x.hi && (!(x.t == 112) || decide (x.lo ≤ (nf : Int)))
set_option maxRecDepth 100000 in
set_option maxHeartbeats 3200000 in
theorem typedv_any (sb : Nat) (A : Option Addr) (n c : Nat) (x : V3) (w : World) (hc : w.cell? ⟨sb, 1, none⟩ = some (.slice A n c)) (hn : n ≤ 65536) (h0 : 0 ≤ x.lo) (h1 : x.lo ≤ 18446744073709551615) :
    Calls Tryz.prog 53 #[.pointer (some ⟨sb, 0, none⟩), .agg #[.int .u8 x.t, .int .u64 x.lo, .int .u64 x.hi]] w fun e w' => e = .returned (.bool (rightB n x)) ∧ Kept S0 w w' := by
  obtain ⟨t, lo, hi⟩ := x
  dsimp only at h0 h1
  have hka : Kept S0 w (w.alloc (.cells #[.int .u8 t, .int .u64 lo, .int .u64 hi] 65)) := (Kept.refl S0 w).alloc _
  have hB := Blk.new w 65 #[.int .u8 t, .int .u64 lo, .int .u64 hi]
  have un : IntKind.u64.wrap (n : Int) = (n : Int) := IntWalk.u64_in _ (by omega)
  have HK := Lib.hid hka.drew
  have Q0 := Lib.hid (hB.cell 0)
  have Q1 := Lib.hid (hB.cell 1)
  have Q2 := Lib.hid (hB.cell 2)
  have Q3 := Lib.hid (keep0 hka hc)
  clear hc hka hB
  cases hh : hasB t lo hi with
  | false =>
    have HB := Lib.hid (show rightB n ⟨t, lo, hi⟩ = false by unfold rightB; rw [hh]; rfl)
    have HH := Lib.hid hh
    clear hh
    go_enter Tryz.func53, Tryz.ntmps53
    go_wp2_with fail
    generalize w.alloc (.cells #[.int .u8 t, .int .u64 lo, .int .u64 hi] 65) = w1 at *
    generalize w.heap.size = bx at *
    have q0 : w1.drew.cell? ⟨bx, 0, none⟩ = some (.int .u8 t) := Q0.out
    have q1 : w1.drew.cell? ⟨bx, 1, none⟩ = some (.int .u64 lo) := Q1.out
    have q2 : w1.drew.cell? ⟨bx, 2, none⟩ = some (.int .u64 hi) := Q2.out
    have q3 : w1.drew.cell? ⟨sb, 1, none⟩ = some (.slice A n c) := Q3.out
    have hS : w1.drew.cell? ⟨bx, 0, none⟩ = some (.int .u8 t) ∧ w1.drew.cell? ⟨bx, 1, none⟩ = some (.int .u64 lo) ∧ w1.drew.cell? ⟨bx, 2, none⟩ = some (.int .u64 hi) ∧ w1.drew.cell? ⟨sb, 1, none⟩ = some (.slice A n c) := ⟨q0, q1, q2, q3⟩
    refine wp_region_R (fun w' => w'.cell? ⟨bx, 0, none⟩ = some (.int .u8 t) ∧ w'.cell? ⟨bx, 1, none⟩ = some (.int .u64 lo) ∧ w'.cell? ⟨bx, 2, none⟩ = some (.int .u64 hi) ∧ w'.cell? ⟨sb, 1, none⟩ = some (.slice A n c)) [] (by kernel_rfl) ?_
    generalize w1.drew = w3 at *
    (first | (refine tkR 0 (v := ?_) rfl hS ⟨by rfl, ?_⟩ ?_; rotate_left; intro w h; (try dsimp only at h); first | (go_simp; done) | (go_simp; with_reducible rfl)) | refine skR 0 rfl (fun _ => hS) (by rfl) ?_); simp only [zq1, zq2, Act.put, zq4, zq5, zq6]
    refine wpAnyR_one 1 rfl (by kernel_rfl) (fun K hK1 => ?_)
    go_simp
    go_at_call 81
    refine (has_any _ _ _ _ h0 h1).mono ?_
    rintro e w2 ⟨rfl, hk2⟩
    rw [HH.out]
    have hS2 : w2.cell? ⟨bx, 0, none⟩ = some (.int .u8 t) ∧ w2.cell? ⟨bx, 1, none⟩ = some (.int .u64 lo) ∧ w2.cell? ⟨bx, 2, none⟩ = some (.int .u64 hi) ∧ w2.cell? ⟨sb, 1, none⟩ = some (.slice A n c) := ⟨keep0 hk2 q0, keep0 hk2 q1, keep0 hk2 q2, keep0 hk2 q3⟩
    refine hK1.out _ _ (fun _ => hS2) ?_
    clear hK1 K hS
    (first | (refine tkR 2 (v := ?_) rfl hS2 ⟨by rfl, ?_⟩ ?_; rotate_left; intro w h; (try dsimp only at h); first | (go_simp; done) | (go_simp; with_reducible rfl)) | refine skR 2 rfl (fun _ => hS2) (by rfl) ?_); simp only [zq1, zq2, zq3, Act.put, zq4, zq5, zq6]
    (first | (refine tkR 3 (v := ?_) rfl hS2 ⟨by rfl, ?_⟩ ?_; rotate_left; intro w h; (try dsimp only at h); first | (go_simp; done) | (go_simp; with_reducible rfl)) | refine skR 3 rfl (fun _ => hS2) (by rfl) ?_); simp only [zq1, zq2, zq3, Act.put, zq4, zq5, zq6]
    (first | (refine tkR 4 (v := ?_) rfl hS2 ⟨by rfl, ?_⟩ ?_; rotate_left; intro w h; (try dsimp only at h); first | (go_simp; done) | (go_simp; with_reducible rfl)) | refine skR 4 rfl (fun _ => hS2) (by rfl) ?_); simp only [zq1, zq2, zq3, Act.put, zq4, zq5, zq6]
    (first | (refine tkR 5 (v := ?_) rfl hS2 ⟨by rfl, ?_⟩ ?_; rotate_left; intro w h; (try dsimp only at h); first | (go_simp; done) | (go_simp; with_reducible rfl)) | refine skR 5 rfl (fun _ => hS2) (by rfl) ?_); simp only [zq1, zq2, zq3, Act.put, zq4, zq5, zq6]
    (first | (refine tkR 6 (v := ?_) rfl hS2 ⟨by rfl, ?_⟩ ?_; rotate_left; intro w h; (try dsimp only at h); first | (go_simp; done) | (go_simp; with_reducible rfl)) | refine skR 6 rfl (fun _ => hS2) (by rfl) ?_); simp only [zq1, zq2, zq3, Act.put, zq4, zq5, zq6]
    (first | (refine tkR 7 (v := ?_) rfl hS2 ⟨by rfl, ?_⟩ ?_; rotate_left; intro w h; (try dsimp only at h); first | (go_simp; done) | (go_simp; with_reducible rfl)) | refine skR 7 rfl (fun _ => hS2) (by rfl) ?_); simp only [zq1, zq2, zq3, Act.put, zq4, zq5, zq6]
    (first | (refine tkR 8 (v := ?_) rfl hS2 ⟨by rfl, ?_⟩ ?_; rotate_left; intro w h; (try dsimp only at h); first | (go_simp; done) | (go_simp; with_reducible rfl)) | refine skR 8 rfl (fun _ => hS2) (by rfl) ?_); simp only [zq1, zq2, zq3, Act.put, zq4, zq5, zq6]
    (first | (refine tkR 9 (v := ?_) rfl hS2 ⟨by rfl, ?_⟩ ?_; rotate_left; intro w h; (try dsimp only at h); first | (go_simp; done) | (go_simp; with_reducible rfl)) | refine skR 9 rfl (fun _ => hS2) (by rfl) ?_); simp only [zq1, zq2, zq3, Act.put, zq4, zq5, zq6]
    (first | (refine tkR 10 (v := ?_) rfl hS2 ⟨by rfl, ?_⟩ ?_; rotate_left; intro w h; (try dsimp only at h); first | (go_simp; done) | (go_simp; with_reducible rfl)) | refine skR 10 rfl (fun _ => hS2) (by rfl) ?_); simp only [zq1, zq2, zq3, Act.put, zq4, zq5, zq6]
    (first | (refine tkR 11 (v := ?_) rfl hS2 ⟨by rfl, ?_⟩ ?_; rotate_left; intro w h; (try dsimp only at h); first | (go_simp; done) | (go_simp; with_reducible rfl)) | refine skR 11 rfl (fun _ => hS2) (by rfl) ?_); simp only [zq1, zq2, zq3, Act.put, zq4, zq5, zq6]
    (first | (refine tkR 12 (v := ?_) rfl hS2 ⟨by rfl, ?_⟩ ?_; rotate_left; intro w h; (try dsimp only at h); first | (go_simp; done) | (go_simp; with_reducible rfl)) | refine skR 12 rfl (fun _ => hS2) (by rfl) ?_); simp only [zq1, zq2, zq3, Act.put, zq4, zq5, zq6]
    (first | (refine tkR 13 (v := ?_) rfl hS2 ⟨by rfl, ?_⟩ ?_; rotate_left; intro w h; (try dsimp only at h); first | (go_simp; done) | (go_simp; with_reducible rfl)) | refine skR 13 rfl (fun _ => hS2) (by rfl) ?_); simp only [zq1, zq2, zq3, Act.put, zq4, zq5, zq6]
    (first | (refine tkR 14 (v := ?_) rfl hS2 ⟨by rfl, ?_⟩ ?_; rotate_left; intro w h; (try dsimp only at h); first | (go_simp; done) | (go_simp; with_reducible rfl)) | refine skR 14 rfl (fun _ => hS2) (by rfl) ?_); simp only [zq1, zq2, zq3, Act.put, zq4, zq5, zq6]
    (first | (refine tkR 15 (v := ?_) rfl hS2 ⟨by rfl, ?_⟩ ?_; rotate_left; intro w h; (try dsimp only at h); first | (go_simp; done) | (go_simp; with_reducible rfl)) | refine skR 15 rfl (fun _ => hS2) (by rfl) ?_); simp only [zq1, zq2, zq3, Act.put, zq4, zq5, zq6]
    (first | (refine tkR 16 (v := ?_) rfl hS2 ⟨by rfl, ?_⟩ ?_; rotate_left; intro w h; (try dsimp only at h); first | (go_simp; done) | (go_simp; with_reducible rfl)) | refine skR 16 rfl (fun _ => hS2) (by rfl) ?_); simp only [zq1, zq2, zq3, Act.put, zq4, zq5, zq6]
    (first | (refine tkR 17 (v := ?_) rfl hS2 ⟨by rfl, ?_⟩ ?_; rotate_left; intro w h; (try dsimp only at h); first | (go_simp; done) | (go_simp; with_reducible rfl)) | refine skR 17 rfl (fun _ => hS2) (by rfl) ?_); simp only [zq1, zq2, zq3, Act.put, zq4, zq5, zq6]
    (first | (refine tkR 18 (v := ?_) rfl hS2 ⟨by rfl, ?_⟩ ?_; rotate_left; intro w h; (try dsimp only at h); first | (go_simp; done) | (go_simp; with_reducible rfl)) | refine skR 18 rfl (fun _ => hS2) (by rfl) ?_); simp only [zq1, zq2, zq3, Act.put, zq4, zq5, zq6]
    (first | (refine tkR 19 (v := ?_) rfl hS2 ⟨by rfl, ?_⟩ ?_; rotate_left; intro w h; (try dsimp only at h); first | (go_simp; done) | (go_simp; with_reducible rfl)) | refine skR 19 rfl (fun _ => hS2) (by rfl) ?_); simp only [zq1, zq2, zq3, Act.put, zq4, zq5, zq6]
    (first | (refine tkR 20 (v := ?_) rfl hS2 ⟨by rfl, ?_⟩ ?_; rotate_left; intro w h; (try dsimp only at h); first | (go_simp; done) | (go_simp; with_reducible rfl)) | refine skR 20 rfl (fun _ => hS2) (by rfl) ?_); simp only [zq1, zq2, zq3, Act.put, zq4, zq5, zq6]
    (first | (refine tkR 21 (v := ?_) rfl hS2 ⟨by rfl, ?_⟩ ?_; rotate_left; intro w h; (try dsimp only at h); first | (go_simp; done) | (go_simp; with_reducible rfl)) | refine skR 21 rfl (fun _ => hS2) (by rfl) ?_); simp only [zq1, zq2, zq3, Act.put, zq4, zq5, zq6]
    (first | (refine tkR 22 (v := ?_) rfl hS2 ⟨by rfl, ?_⟩ ?_; rotate_left; intro w h; (try dsimp only at h); first | (go_simp; done) | (go_simp; with_reducible rfl)) | refine skR 22 rfl (fun _ => hS2) (by rfl) ?_); simp only [zq1, zq2, zq3, Act.put, zq4, zq5, zq6]
    (first | (refine tkR 23 (v := ?_) rfl hS2 ⟨by rfl, ?_⟩ ?_; rotate_left; intro w h; (try dsimp only at h); first | (go_simp; done) | (go_simp; with_reducible rfl)) | refine skR 23 rfl (fun _ => hS2) (by rfl) ?_); simp only [zq1, zq2, zq3, Act.put, zq4, zq5, zq6]
    (first | (refine tkR 24 (v := ?_) rfl hS2 ⟨by rfl, ?_⟩ ?_; rotate_left; intro w h; (try dsimp only at h); first | (go_simp; done) | (go_simp; with_reducible rfl)) | refine skR 24 rfl (fun _ => hS2) (by rfl) ?_); simp only [zq1, zq2, zq3, Act.put, zq4, zq5, zq6]
    (first | (refine tkR 25 (v := ?_) rfl hS2 ⟨by rfl, ?_⟩ ?_; rotate_left; intro w h; (try dsimp only at h); first | (go_simp; done) | (go_simp; with_reducible rfl)) | refine skR 25 rfl (fun _ => hS2) (by rfl) ?_); simp only [zq1, zq2, zq3, Act.put, zq4, zq5, zq6]
    refine wpAnyR_done (by kernel_rfl) ?_ _
    have HK2 := Lib.hid (HK.out.then0 hk2)
    clear q0 q1 q2 q3 hk2 hS2
    go_wp2_with fail
    go_ret
    exact ⟨ret_bool (by rw [HB.out]), HK2.out⟩
  | true =>
    by_cases ht : t = 112
    · by_cases hl : lo = 0
      · have HB := Lib.hid (show rightB n ⟨t, lo, hi⟩ = true by unfold rightB; rw [hh]; simp [hl])
        have g1 : (t != 112) = false := by rw [ht]; rfl
        have g2 : (lo == 0) = true := by rw [hl]; rfl
        have HH := Lib.hid hh
        clear hh hl ht
        go_enter Tryz.func53, Tryz.ntmps53
        go_wp2_with fail
        generalize w.alloc (.cells #[.int .u8 t, .int .u64 lo, .int .u64 hi] 65) = w1 at *
        generalize w.heap.size = bx at *
        have q0 : w1.drew.cell? ⟨bx, 0, none⟩ = some (.int .u8 t) := Q0.out
        have q1 : w1.drew.cell? ⟨bx, 1, none⟩ = some (.int .u64 lo) := Q1.out
        have q2 : w1.drew.cell? ⟨bx, 2, none⟩ = some (.int .u64 hi) := Q2.out
        have q3 : w1.drew.cell? ⟨sb, 1, none⟩ = some (.slice A n c) := Q3.out
        have hS : w1.drew.cell? ⟨bx, 0, none⟩ = some (.int .u8 t) ∧ w1.drew.cell? ⟨bx, 1, none⟩ = some (.int .u64 lo) ∧ w1.drew.cell? ⟨bx, 2, none⟩ = some (.int .u64 hi) ∧ w1.drew.cell? ⟨sb, 1, none⟩ = some (.slice A n c) := ⟨q0, q1, q2, q3⟩
        refine wp_region_R (fun w' => w'.cell? ⟨bx, 0, none⟩ = some (.int .u8 t) ∧ w'.cell? ⟨bx, 1, none⟩ = some (.int .u64 lo) ∧ w'.cell? ⟨bx, 2, none⟩ = some (.int .u64 hi) ∧ w'.cell? ⟨sb, 1, none⟩ = some (.slice A n c)) [] (by kernel_rfl) ?_
        generalize w1.drew = w3 at *
        (first | (refine tkR 0 (v := ?_) rfl hS ⟨by rfl, ?_⟩ ?_; rotate_left; intro w h; (try dsimp only at h); first | (go_simp; done) | (go_simp; with_reducible rfl)) | refine skR 0 rfl (fun _ => hS) (by rfl) ?_); simp only [zq1, zq2, Act.put, zq4, zq5, zq6]
        refine wpAnyR_one 1 rfl (by kernel_rfl) (fun K hK1 => ?_)
        go_simp
        go_at_call 81
        refine (has_any _ _ _ _ h0 h1).mono ?_
        rintro e w2 ⟨rfl, hk2⟩
        rw [HH.out]
        have hS2 : w2.cell? ⟨bx, 0, none⟩ = some (.int .u8 t) ∧ w2.cell? ⟨bx, 1, none⟩ = some (.int .u64 lo) ∧ w2.cell? ⟨bx, 2, none⟩ = some (.int .u64 hi) ∧ w2.cell? ⟨sb, 1, none⟩ = some (.slice A n c) := ⟨keep0 hk2 q0, keep0 hk2 q1, keep0 hk2 q2, keep0 hk2 q3⟩
        refine hK1.out _ _ (fun _ => hS2) ?_
        clear hK1 K hS
        (first | (refine tkR 2 (v := ?_) rfl hS2 ⟨by rfl, ?_⟩ ?_; rotate_left; intro w h; (try dsimp only at h); first | (go_simp; done) | (go_simp; with_reducible rfl)) | refine skR 2 rfl (fun _ => hS2) (by rfl) ?_); simp only [zq1, zq2, zq3, Act.put, zq4, zq5, zq6]
        (first | (refine tkR 3 (v := ?_) rfl hS2 ⟨by rfl, ?_⟩ ?_; rotate_left; intro w h; (try dsimp only at h); first | (go_simp; done) | (go_simp; with_reducible rfl)) | refine skR 3 rfl (fun _ => hS2) (by rfl) ?_); simp only [zq1, zq2, zq3, Act.put, zq4, zq5, zq6]
        (first | (refine tkR 4 (v := ?_) rfl hS2 ⟨by rfl, ?_⟩ ?_; rotate_left; intro w h; (try dsimp only at h); first | (go_simp; done) | (go_simp; with_reducible rfl)) | refine skR 4 rfl (fun _ => hS2) (by rfl) ?_); simp only [zq1, zq2, zq3, Act.put, zq4, zq5, zq6]
        (first | (refine tkR 5 (v := ?_) rfl hS2 ⟨by rfl, ?_⟩ ?_; rotate_left; intro w h; (try dsimp only at h); first | (go_simp; done) | (go_simp; with_reducible rfl)) | refine skR 5 rfl (fun _ => hS2) (by rfl) ?_); simp only [zq1, zq2, zq3, Act.put, zq4, zq5, zq6]
        (first | (refine tkR 6 (v := ?_) rfl hS2 ⟨by rfl, ?_⟩ ?_; rotate_left; intro w h; (try dsimp only at h); first | (go_simp; done) | (go_simp; with_reducible rfl)) | refine skR 6 rfl (fun _ => hS2) (by rfl) ?_); simp only [zq1, zq2, zq3, Act.put, zq4, zq5, zq6]
        (first | (refine tkR 7 (v := ?_) rfl hS2 ⟨by rfl, ?_⟩ ?_; rotate_left; intro w h; (try dsimp only at h); first | (go_simp; done) | (go_simp; with_reducible rfl)) | refine skR 7 rfl (fun _ => hS2) (by rfl) ?_); simp only [zq1, zq2, zq3, Act.put, zq4, zq5, zq6]
        (first | (refine tkR 8 (v := ?_) rfl hS2 ⟨by rfl, ?_⟩ ?_; rotate_left; intro w h; (try dsimp only at h); first | (go_simp; done) | (go_simp; with_reducible rfl)) | refine skR 8 rfl (fun _ => hS2) (by rfl) ?_); simp only [zq1, zq2, zq3, Act.put, zq4, zq5, zq6]
        (first | (refine tkR 9 (v := ?_) rfl hS2 ⟨by rfl, ?_⟩ ?_; rotate_left; intro w h; (try dsimp only at h); first | (go_simp; done) | (go_simp; with_reducible rfl)) | refine skR 9 rfl (fun _ => hS2) (by rfl) ?_); simp only [zq1, zq2, zq3, Act.put, zq4, zq5, zq6]
        (first | (refine tkR 10 (v := ?_) rfl hS2 ⟨by rfl, ?_⟩ ?_; rotate_left; intro w h; (try dsimp only at h); first | (go_simp; done) | (go_simp; with_reducible rfl)) | refine skR 10 rfl (fun _ => hS2) (by rfl) ?_); simp only [zq1, zq2, zq3, Act.put, zq4, zq5, zq6]
        (first | (refine tkR 11 (v := ?_) rfl hS2 ⟨by rfl, ?_⟩ ?_; rotate_left; intro w h; (try dsimp only at h); first | (go_simp; done) | (go_simp; with_reducible rfl)) | refine skR 11 rfl (fun _ => hS2) (by rfl) ?_); simp only [zq1, zq2, zq3, Act.put, zq4, zq5, zq6]
        (first | (refine tkR 12 (v := ?_) rfl hS2 ⟨by rfl, ?_⟩ ?_; rotate_left; intro w h; (try dsimp only at h); first | (go_simp; done) | (go_simp; with_reducible rfl)) | refine skR 12 rfl (fun _ => hS2) (by rfl) ?_); simp only [zq1, zq2, zq3, Act.put, zq4, zq5, zq6]
        (first | (refine tkR 13 (v := ?_) rfl hS2 ⟨by rfl, ?_⟩ ?_; rotate_left; intro w h; (try dsimp only at h); first | (go_simp; done) | (go_simp; with_reducible rfl)) | refine skR 13 rfl (fun _ => hS2) (by rfl) ?_); simp only [zq1, zq2, zq3, Act.put, zq4, zq5, zq6]
        (first | (refine tkR 14 (v := ?_) rfl hS2 ⟨by rfl, ?_⟩ ?_; rotate_left; intro w h; (try dsimp only at h); first | (go_simp; done) | (go_simp; with_reducible rfl)) | refine skR 14 rfl (fun _ => hS2) (by rfl) ?_); simp only [zq1, zq2, zq3, Act.put, zq4, zq5, zq6]
        (first | (refine tkR 15 (v := ?_) rfl hS2 ⟨by rfl, ?_⟩ ?_; rotate_left; intro w h; (try dsimp only at h); first | (go_simp; done) | (go_simp; with_reducible rfl)) | refine skR 15 rfl (fun _ => hS2) (by rfl) ?_); simp only [zq1, zq2, zq3, Act.put, zq4, zq5, zq6]
        (first | (refine tkR 16 (v := ?_) rfl hS2 ⟨by rfl, ?_⟩ ?_; rotate_left; intro w h; (try dsimp only at h); first | (go_simp; done) | (go_simp; with_reducible rfl)) | refine skR 16 rfl (fun _ => hS2) (by rfl) ?_); simp only [zq1, zq2, zq3, Act.put, zq4, zq5, zq6]
        (first | (refine tkR 17 (v := ?_) rfl hS2 ⟨by rfl, ?_⟩ ?_; rotate_left; intro w h; (try dsimp only at h); first | (go_simp; done) | (go_simp; with_reducible rfl)) | refine skR 17 rfl (fun _ => hS2) (by rfl) ?_); simp only [zq1, zq2, zq3, Act.put, zq4, zq5, zq6]
        (first | (refine tkR 18 (v := ?_) rfl hS2 ⟨by rfl, ?_⟩ ?_; rotate_left; intro w h; (try dsimp only at h); first | (go_simp; done) | (go_simp; with_reducible rfl)) | refine skR 18 rfl (fun _ => hS2) (by rfl) ?_); simp only [zq1, zq2, zq3, Act.put, zq4, zq5, zq6]
        (first | (refine tkR 19 (v := ?_) rfl hS2 ⟨by rfl, ?_⟩ ?_; rotate_left; intro w h; (try dsimp only at h); first | (go_simp; done) | (go_simp; with_reducible rfl)) | refine skR 19 rfl (fun _ => hS2) (by rfl) ?_); simp only [zq1, zq2, zq3, Act.put, zq4, zq5, zq6]
        (first | (refine tkR 20 (v := ?_) rfl hS2 ⟨by rfl, ?_⟩ ?_; rotate_left; intro w h; (try dsimp only at h); first | (go_simp; done) | (go_simp; with_reducible rfl)) | refine skR 20 rfl (fun _ => hS2) (by rfl) ?_); simp only [zq1, zq2, zq3, Act.put, zq4, zq5, zq6]
        (first | (refine tkR 21 (v := ?_) rfl hS2 ⟨by rfl, ?_⟩ ?_; rotate_left; intro w h; (try dsimp only at h); first | (go_simp; done) | (go_simp; with_reducible rfl)) | refine skR 21 rfl (fun _ => hS2) (by rfl) ?_); simp only [zq1, zq2, zq3, Act.put, zq4, zq5, zq6]
        (first | (refine tkR 22 (v := ?_) rfl hS2 ⟨by rfl, ?_⟩ ?_; rotate_left; intro w h; (try dsimp only at h); first | (go_simp; done) | (go_simp; with_reducible rfl)) | refine skR 22 rfl (fun _ => hS2) (by rfl) ?_); simp only [zq1, zq2, zq3, Act.put, zq4, zq5, zq6]
        (first | (refine tkR 23 (v := ?_) rfl hS2 ⟨by rfl, ?_⟩ ?_; rotate_left; intro w h; (try dsimp only at h); first | (go_simp; done) | (go_simp; with_reducible rfl)) | refine skR 23 rfl (fun _ => hS2) (by rfl) ?_); simp only [zq1, zq2, zq3, Act.put, zq4, zq5, zq6]
        (first | (refine tkR 24 (v := ?_) rfl hS2 ⟨by rfl, ?_⟩ ?_; rotate_left; intro w h; (try dsimp only at h); first | (go_simp; done) | (go_simp; with_reducible rfl)) | refine skR 24 rfl (fun _ => hS2) (by rfl) ?_); simp only [zq1, zq2, zq3, Act.put, zq4, zq5, zq6]
        (first | (refine tkR 25 (v := ?_) rfl hS2 ⟨by rfl, ?_⟩ ?_; rotate_left; intro w h; (try dsimp only at h); first | (go_simp; done) | (go_simp; with_reducible rfl)) | refine skR 25 rfl (fun _ => hS2) (by rfl) ?_); simp only [zq1, zq2, zq3, Act.put, zq4, zq5, zq6]
        refine wpAnyR_done (by kernel_rfl) ?_ _
        have HK2 := Lib.hid (HK.out.then0 hk2)
        clear q0 q1 q2 q3 hk2 hS2
        go_wp2_with fail
        go_ret
        exact ⟨ret_bool (by rw [HB.out]), HK2.out⟩
      · have HB := Lib.hid (show rightB n ⟨t, lo, hi⟩ = decide (lo - 1 < (n : Int)) by unfold rightB; rw [hh]; simp only [ht]; simp; omega)
        have g2 : (t != 112) = false := by rw [ht]; rfl
        have g1 : (lo == 0) = false := beq_eq_false_iff_ne.2 hl
        have um : IntKind.u64.wrap (lo - 1) = lo - 1 := IntWalk.u64_in _ (by omega)
        have HH := Lib.hid hh
        clear hh hl ht
        go_enter Tryz.func53, Tryz.ntmps53
        go_wp2_with fail
        generalize w.alloc (.cells #[.int .u8 t, .int .u64 lo, .int .u64 hi] 65) = w1 at *
        generalize w.heap.size = bx at *
        have q0 : w1.drew.cell? ⟨bx, 0, none⟩ = some (.int .u8 t) := Q0.out
        have q1 : w1.drew.cell? ⟨bx, 1, none⟩ = some (.int .u64 lo) := Q1.out
        have q2 : w1.drew.cell? ⟨bx, 2, none⟩ = some (.int .u64 hi) := Q2.out
        have q3 : w1.drew.cell? ⟨sb, 1, none⟩ = some (.slice A n c) := Q3.out
        have hS : w1.drew.cell? ⟨bx, 0, none⟩ = some (.int .u8 t) ∧ w1.drew.cell? ⟨bx, 1, none⟩ = some (.int .u64 lo) ∧ w1.drew.cell? ⟨bx, 2, none⟩ = some (.int .u64 hi) ∧ w1.drew.cell? ⟨sb, 1, none⟩ = some (.slice A n c) := ⟨q0, q1, q2, q3⟩
        refine wp_region_R (fun w' => w'.cell? ⟨bx, 0, none⟩ = some (.int .u8 t) ∧ w'.cell? ⟨bx, 1, none⟩ = some (.int .u64 lo) ∧ w'.cell? ⟨bx, 2, none⟩ = some (.int .u64 hi) ∧ w'.cell? ⟨sb, 1, none⟩ = some (.slice A n c)) [] (by kernel_rfl) ?_
        generalize w1.drew = w3 at *
        (first | (refine tkR 0 (v := ?_) rfl hS ⟨by rfl, ?_⟩ ?_; rotate_left; intro w h; (try dsimp only at h); first | (go_simp; done) | (go_simp; with_reducible rfl)) | refine skR 0 rfl (fun _ => hS) (by rfl) ?_); simp only [zq1, zq2, Act.put, zq4, zq5, zq6]
        refine wpAnyR_one 1 rfl (by kernel_rfl) (fun K hK1 => ?_)
        go_simp
        go_at_call 81
        refine (has_any _ _ _ _ h0 h1).mono ?_
        rintro e w2 ⟨rfl, hk2⟩
        rw [HH.out]
        have hS2 : w2.cell? ⟨bx, 0, none⟩ = some (.int .u8 t) ∧ w2.cell? ⟨bx, 1, none⟩ = some (.int .u64 lo) ∧ w2.cell? ⟨bx, 2, none⟩ = some (.int .u64 hi) ∧ w2.cell? ⟨sb, 1, none⟩ = some (.slice A n c) := ⟨keep0 hk2 q0, keep0 hk2 q1, keep0 hk2 q2, keep0 hk2 q3⟩
        refine hK1.out _ _ (fun _ => hS2) ?_
        clear hK1 K hS
        (first | (refine tkR 2 (v := ?_) rfl hS2 ⟨by rfl, ?_⟩ ?_; rotate_left; intro w h; (try dsimp only at h); first | (go_simp; done) | (go_simp; with_reducible rfl)) | refine skR 2 rfl (fun _ => hS2) (by rfl) ?_); simp only [zq1, zq2, zq3, Act.put, zq4, zq5, zq6]
        (first | (refine tkR 3 (v := ?_) rfl hS2 ⟨by rfl, ?_⟩ ?_; rotate_left; intro w h; (try dsimp only at h); first | (go_simp; done) | (go_simp; with_reducible rfl)) | refine skR 3 rfl (fun _ => hS2) (by rfl) ?_); simp only [zq1, zq2, zq3, Act.put, zq4, zq5, zq6]
        (first | (refine tkR 4 (v := ?_) rfl hS2 ⟨by rfl, ?_⟩ ?_; rotate_left; intro w h; (try dsimp only at h); first | (go_simp; done) | (go_simp; with_reducible rfl)) | refine skR 4 rfl (fun _ => hS2) (by rfl) ?_); simp only [zq1, zq2, zq3, Act.put, zq4, zq5, zq6]
        (first | (refine tkR 5 (v := ?_) rfl hS2 ⟨by rfl, ?_⟩ ?_; rotate_left; intro w h; (try dsimp only at h); first | (go_simp; done) | (go_simp; with_reducible rfl)) | refine skR 5 rfl (fun _ => hS2) (by rfl) ?_); simp only [zq1, zq2, zq3, Act.put, zq4, zq5, zq6]
        (first | (refine tkR 6 (v := ?_) rfl hS2 ⟨by rfl, ?_⟩ ?_; rotate_left; intro w h; (try dsimp only at h); first | (go_simp; done) | (go_simp; with_reducible rfl)) | refine skR 6 rfl (fun _ => hS2) (by rfl) ?_); simp only [zq1, zq2, zq3, Act.put, zq4, zq5, zq6]
        (first | (refine tkR 7 (v := ?_) rfl hS2 ⟨by rfl, ?_⟩ ?_; rotate_left; intro w h; (try dsimp only at h); first | (go_simp; done) | (go_simp; with_reducible rfl)) | refine skR 7 rfl (fun _ => hS2) (by rfl) ?_); simp only [zq1, zq2, zq3, Act.put, zq4, zq5, zq6]
        (first | (refine tkR 8 (v := ?_) rfl hS2 ⟨by rfl, ?_⟩ ?_; rotate_left; intro w h; (try dsimp only at h); first | (go_simp; done) | (go_simp; with_reducible rfl)) | refine skR 8 rfl (fun _ => hS2) (by rfl) ?_); simp only [zq1, zq2, zq3, Act.put, zq4, zq5, zq6]
        (first | (refine tkR 9 (v := ?_) rfl hS2 ⟨by rfl, ?_⟩ ?_; rotate_left; intro w h; (try dsimp only at h); first | (go_simp; done) | (go_simp; with_reducible rfl)) | refine skR 9 rfl (fun _ => hS2) (by rfl) ?_); simp only [zq1, zq2, zq3, Act.put, zq4, zq5, zq6]
        (first | (refine tkR 10 (v := ?_) rfl hS2 ⟨by rfl, ?_⟩ ?_; rotate_left; intro w h; (try dsimp only at h); first | (go_simp; done) | (go_simp; with_reducible rfl)) | refine skR 10 rfl (fun _ => hS2) (by rfl) ?_); simp only [zq1, zq2, zq3, Act.put, zq4, zq5, zq6]
        (first | (refine tkR 11 (v := ?_) rfl hS2 ⟨by rfl, ?_⟩ ?_; rotate_left; intro w h; (try dsimp only at h); first | (go_simp; done) | (go_simp; with_reducible rfl)) | refine skR 11 rfl (fun _ => hS2) (by rfl) ?_); simp only [zq1, zq2, zq3, Act.put, zq4, zq5, zq6]
        (first | (refine tkR 12 (v := ?_) rfl hS2 ⟨by rfl, ?_⟩ ?_; rotate_left; intro w h; (try dsimp only at h); first | (go_simp; done) | (go_simp; with_reducible rfl)) | refine skR 12 rfl (fun _ => hS2) (by rfl) ?_); simp only [zq1, zq2, zq3, Act.put, zq4, zq5, zq6]
        (first | (refine tkR 13 (v := ?_) rfl hS2 ⟨by rfl, ?_⟩ ?_; rotate_left; intro w h; (try dsimp only at h); first | (go_simp; done) | (go_simp; with_reducible rfl)) | refine skR 13 rfl (fun _ => hS2) (by rfl) ?_); simp only [zq1, zq2, zq3, Act.put, zq4, zq5, zq6]
        (first | (refine tkR 14 (v := ?_) rfl hS2 ⟨by rfl, ?_⟩ ?_; rotate_left; intro w h; (try dsimp only at h); first | (go_simp; done) | (go_simp; with_reducible rfl)) | refine skR 14 rfl (fun _ => hS2) (by rfl) ?_); simp only [zq1, zq2, zq3, Act.put, zq4, zq5, zq6]
        (first | (refine tkR 15 (v := ?_) rfl hS2 ⟨by rfl, ?_⟩ ?_; rotate_left; intro w h; (try dsimp only at h); first | (go_simp; done) | (go_simp; with_reducible rfl)) | refine skR 15 rfl (fun _ => hS2) (by rfl) ?_); simp only [zq1, zq2, zq3, Act.put, zq4, zq5, zq6]
        (first | (refine tkR 16 (v := ?_) rfl hS2 ⟨by rfl, ?_⟩ ?_; rotate_left; intro w h; (try dsimp only at h); first | (go_simp; done) | (go_simp; with_reducible rfl)) | refine skR 16 rfl (fun _ => hS2) (by rfl) ?_); simp only [zq1, zq2, zq3, Act.put, zq4, zq5, zq6]
        (first | (refine tkR 17 (v := ?_) rfl hS2 ⟨by rfl, ?_⟩ ?_; rotate_left; intro w h; (try dsimp only at h); first | (go_simp; done) | (go_simp; with_reducible rfl)) | refine skR 17 rfl (fun _ => hS2) (by rfl) ?_); simp only [zq1, zq2, zq3, Act.put, zq4, zq5, zq6]
        (first | (refine tkR 18 (v := ?_) rfl hS2 ⟨by rfl, ?_⟩ ?_; rotate_left; intro w h; (try dsimp only at h); first | (go_simp; done) | (go_simp; with_reducible rfl)) | refine skR 18 rfl (fun _ => hS2) (by rfl) ?_); simp only [zq1, zq2, zq3, Act.put, zq4, zq5, zq6]
        (first | (refine tkR 19 (v := ?_) rfl hS2 ⟨by rfl, ?_⟩ ?_; rotate_left; intro w h; (try dsimp only at h); first | (go_simp; done) | (go_simp; with_reducible rfl)) | refine skR 19 rfl (fun _ => hS2) (by rfl) ?_); simp only [zq1, zq2, zq3, Act.put, zq4, zq5, zq6]
        (first | (refine tkR 20 (v := ?_) rfl hS2 ⟨by rfl, ?_⟩ ?_; rotate_left; intro w h; (try dsimp only at h); first | (go_simp; done) | (go_simp; with_reducible rfl)) | refine skR 20 rfl (fun _ => hS2) (by rfl) ?_); simp only [zq1, zq2, zq3, Act.put, zq4, zq5, zq6]
        (first | (refine tkR 21 (v := ?_) rfl hS2 ⟨by rfl, ?_⟩ ?_; rotate_left; intro w h; (try dsimp only at h); first | (go_simp; done) | (go_simp; with_reducible rfl)) | refine skR 21 rfl (fun _ => hS2) (by rfl) ?_); simp only [zq1, zq2, zq3, Act.put, zq4, zq5, zq6]
        (first | (refine tkR 22 (v := ?_) rfl hS2 ⟨by rfl, ?_⟩ ?_; rotate_left; intro w h; (try dsimp only at h); first | (go_simp; done) | (go_simp; with_reducible rfl)) | refine skR 22 rfl (fun _ => hS2) (by rfl) ?_); simp only [zq1, zq2, zq3, Act.put, zq4, zq5, zq6]
        (first | (refine tkR 23 (v := ?_) rfl hS2 ⟨by rfl, ?_⟩ ?_; rotate_left; intro w h; (try dsimp only at h); first | (go_simp; done) | (go_simp; with_reducible rfl)) | refine skR 23 rfl (fun _ => hS2) (by rfl) ?_); simp only [zq1, zq2, zq3, Act.put, zq4, zq5, zq6]
        (first | (refine tkR 24 (v := ?_) rfl hS2 ⟨by rfl, ?_⟩ ?_; rotate_left; intro w h; (try dsimp only at h); first | (go_simp; done) | (go_simp; with_reducible rfl)) | refine skR 24 rfl (fun _ => hS2) (by rfl) ?_); simp only [zq1, zq2, zq3, Act.put, zq4, zq5, zq6]
        (first | (refine tkR 25 (v := ?_) rfl hS2 ⟨by rfl, ?_⟩ ?_; rotate_left; intro w h; (try dsimp only at h); first | (go_simp; done) | (go_simp; with_reducible rfl)) | refine skR 25 rfl (fun _ => hS2) (by rfl) ?_); simp only [zq1, zq2, zq3, Act.put, zq4, zq5, zq6]
        refine wpAnyR_done (by kernel_rfl) ?_ _
        have HK2 := Lib.hid (HK.out.then0 hk2)
        clear q0 q1 q2 q3 hk2 hS2
        go_wp2_with fail
        go_ret
        exact ⟨ret_bool (by rw [HB.out]), HK2.out⟩
    · have HB := Lib.hid (show rightB n ⟨t, lo, hi⟩ = true by unfold rightB; rw [hh]; simp [ht])
      have g1 : (t != 112) = true := bne_iff_ne.2 ht
      have HH := Lib.hid hh
      clear hh ht
      go_enter Tryz.func53, Tryz.ntmps53
      go_wp2_with fail
      generalize w.alloc (.cells #[.int .u8 t, .int .u64 lo, .int .u64 hi] 65) = w1 at *
      generalize w.heap.size = bx at *
      have q0 : w1.drew.cell? ⟨bx, 0, none⟩ = some (.int .u8 t) := Q0.out
      have q1 : w1.drew.cell? ⟨bx, 1, none⟩ = some (.int .u64 lo) := Q1.out
      have q2 : w1.drew.cell? ⟨bx, 2, none⟩ = some (.int .u64 hi) := Q2.out
      have q3 : w1.drew.cell? ⟨sb, 1, none⟩ = some (.slice A n c) := Q3.out
      have hS : w1.drew.cell? ⟨bx, 0, none⟩ = some (.int .u8 t) ∧ w1.drew.cell? ⟨bx, 1, none⟩ = some (.int .u64 lo) ∧ w1.drew.cell? ⟨bx, 2, none⟩ = some (.int .u64 hi) ∧ w1.drew.cell? ⟨sb, 1, none⟩ = some (.slice A n c) := ⟨q0, q1, q2, q3⟩
      refine wp_region_R (fun w' => w'.cell? ⟨bx, 0, none⟩ = some (.int .u8 t) ∧ w'.cell? ⟨bx, 1, none⟩ = some (.int .u64 lo) ∧ w'.cell? ⟨bx, 2, none⟩ = some (.int .u64 hi) ∧ w'.cell? ⟨sb, 1, none⟩ = some (.slice A n c)) [] (by kernel_rfl) ?_
      generalize w1.drew = w3 at *
      (first | (refine tkR 0 (v := ?_) rfl hS ⟨by rfl, ?_⟩ ?_; rotate_left; intro w h; (try dsimp only at h); first | (go_simp; done) | (go_simp; with_reducible rfl)) | refine skR 0 rfl (fun _ => hS) (by rfl) ?_); simp only [zq1, zq2, Act.put, zq4, zq5, zq6]
      refine wpAnyR_one 1 rfl (by kernel_rfl) (fun K hK1 => ?_)
      go_simp
      go_at_call 81
      refine (has_any _ _ _ _ h0 h1).mono ?_
      rintro e w2 ⟨rfl, hk2⟩
      rw [HH.out]
      have hS2 : w2.cell? ⟨bx, 0, none⟩ = some (.int .u8 t) ∧ w2.cell? ⟨bx, 1, none⟩ = some (.int .u64 lo) ∧ w2.cell? ⟨bx, 2, none⟩ = some (.int .u64 hi) ∧ w2.cell? ⟨sb, 1, none⟩ = some (.slice A n c) := ⟨keep0 hk2 q0, keep0 hk2 q1, keep0 hk2 q2, keep0 hk2 q3⟩
      refine hK1.out _ _ (fun _ => hS2) ?_
      clear hK1 K hS
      (first | (refine tkR 2 (v := ?_) rfl hS2 ⟨by rfl, ?_⟩ ?_; rotate_left; intro w h; (try dsimp only at h); first | (go_simp; done) | (go_simp; with_reducible rfl)) | refine skR 2 rfl (fun _ => hS2) (by rfl) ?_); simp only [zq1, zq2, zq3, Act.put, zq4, zq5, zq6]
      (first | (refine tkR 3 (v := ?_) rfl hS2 ⟨by rfl, ?_⟩ ?_; rotate_left; intro w h; (try dsimp only at h); first | (go_simp; done) | (go_simp; with_reducible rfl)) | refine skR 3 rfl (fun _ => hS2) (by rfl) ?_); simp only [zq1, zq2, zq3, Act.put, zq4, zq5, zq6]
      (first | (refine tkR 4 (v := ?_) rfl hS2 ⟨by rfl, ?_⟩ ?_; rotate_left; intro w h; (try dsimp only at h); first | (go_simp; done) | (go_simp; with_reducible rfl)) | refine skR 4 rfl (fun _ => hS2) (by rfl) ?_); simp only [zq1, zq2, zq3, Act.put, zq4, zq5, zq6]
      (first | (refine tkR 5 (v := ?_) rfl hS2 ⟨by rfl, ?_⟩ ?_; rotate_left; intro w h; (try dsimp only at h); first | (go_simp; done) | (go_simp; with_reducible rfl)) | refine skR 5 rfl (fun _ => hS2) (by rfl) ?_); simp only [zq1, zq2, zq3, Act.put, zq4, zq5, zq6]
      (first | (refine tkR 6 (v := ?_) rfl hS2 ⟨by rfl, ?_⟩ ?_; rotate_left; intro w h; (try dsimp only at h); first | (go_simp; done) | (go_simp; with_reducible rfl)) | refine skR 6 rfl (fun _ => hS2) (by rfl) ?_); simp only [zq1, zq2, zq3, Act.put, zq4, zq5, zq6]
      (first | (refine tkR 7 (v := ?_) rfl hS2 ⟨by rfl, ?_⟩ ?_; rotate_left; intro w h; (try dsimp only at h); first | (go_simp; done) | (go_simp; with_reducible rfl)) | refine skR 7 rfl (fun _ => hS2) (by rfl) ?_); simp only [zq1, zq2, zq3, Act.put, zq4, zq5, zq6]
      (first | (refine tkR 8 (v := ?_) rfl hS2 ⟨by rfl, ?_⟩ ?_; rotate_left; intro w h; (try dsimp only at h); first | (go_simp; done) | (go_simp; with_reducible rfl)) | refine skR 8 rfl (fun _ => hS2) (by rfl) ?_); simp only [zq1, zq2, zq3, Act.put, zq4, zq5, zq6]
      (first | (refine tkR 9 (v := ?_) rfl hS2 ⟨by rfl, ?_⟩ ?_; rotate_left; intro w h; (try dsimp only at h); first | (go_simp; done) | (go_simp; with_reducible rfl)) | refine skR 9 rfl (fun _ => hS2) (by rfl) ?_); simp only [zq1, zq2, zq3, Act.put, zq4, zq5, zq6]
      (first | (refine tkR 10 (v := ?_) rfl hS2 ⟨by rfl, ?_⟩ ?_; rotate_left; intro w h; (try dsimp only at h); first | (go_simp; done) | (go_simp; with_reducible rfl)) | refine skR 10 rfl (fun _ => hS2) (by rfl) ?_); simp only [zq1, zq2, zq3, Act.put, zq4, zq5, zq6]
      (first | (refine tkR 11 (v := ?_) rfl hS2 ⟨by rfl, ?_⟩ ?_; rotate_left; intro w h; (try dsimp only at h); first | (go_simp; done) | (go_simp; with_reducible rfl)) | refine skR 11 rfl (fun _ => hS2) (by rfl) ?_); simp only [zq1, zq2, zq3, Act.put, zq4, zq5, zq6]
      (first | (refine tkR 12 (v := ?_) rfl hS2 ⟨by rfl, ?_⟩ ?_; rotate_left; intro w h; (try dsimp only at h); first | (go_simp; done) | (go_simp; with_reducible rfl)) | refine skR 12 rfl (fun _ => hS2) (by rfl) ?_); simp only [zq1, zq2, zq3, Act.put, zq4, zq5, zq6]
      (first | (refine tkR 13 (v := ?_) rfl hS2 ⟨by rfl, ?_⟩ ?_; rotate_left; intro w h; (try dsimp only at h); first | (go_simp; done) | (go_simp; with_reducible rfl)) | refine skR 13 rfl (fun _ => hS2) (by rfl) ?_); simp only [zq1, zq2, zq3, Act.put, zq4, zq5, zq6]
      (first | (refine tkR 14 (v := ?_) rfl hS2 ⟨by rfl, ?_⟩ ?_; rotate_left; intro w h; (try dsimp only at h); first | (go_simp; done) | (go_simp; with_reducible rfl)) | refine skR 14 rfl (fun _ => hS2) (by rfl) ?_); simp only [zq1, zq2, zq3, Act.put, zq4, zq5, zq6]
      (first | (refine tkR 15 (v := ?_) rfl hS2 ⟨by rfl, ?_⟩ ?_; rotate_left; intro w h; (try dsimp only at h); first | (go_simp; done) | (go_simp; with_reducible rfl)) | refine skR 15 rfl (fun _ => hS2) (by rfl) ?_); simp only [zq1, zq2, zq3, Act.put, zq4, zq5, zq6]
      (first | (refine tkR 16 (v := ?_) rfl hS2 ⟨by rfl, ?_⟩ ?_; rotate_left; intro w h; (try dsimp only at h); first | (go_simp; done) | (go_simp; with_reducible rfl)) | refine skR 16 rfl (fun _ => hS2) (by rfl) ?_); simp only [zq1, zq2, zq3, Act.put, zq4, zq5, zq6]
      (first | (refine tkR 17 (v := ?_) rfl hS2 ⟨by rfl, ?_⟩ ?_; rotate_left; intro w h; (try dsimp only at h); first | (go_simp; done) | (go_simp; with_reducible rfl)) | refine skR 17 rfl (fun _ => hS2) (by rfl) ?_); simp only [zq1, zq2, zq3, Act.put, zq4, zq5, zq6]
      (first | (refine tkR 18 (v := ?_) rfl hS2 ⟨by rfl, ?_⟩ ?_; rotate_left; intro w h; (try dsimp only at h); first | (go_simp; done) | (go_simp; with_reducible rfl)) | refine skR 18 rfl (fun _ => hS2) (by rfl) ?_); simp only [zq1, zq2, zq3, Act.put, zq4, zq5, zq6]
      (first | (refine tkR 19 (v := ?_) rfl hS2 ⟨by rfl, ?_⟩ ?_; rotate_left; intro w h; (try dsimp only at h); first | (go_simp; done) | (go_simp; with_reducible rfl)) | refine skR 19 rfl (fun _ => hS2) (by rfl) ?_); simp only [zq1, zq2, zq3, Act.put, zq4, zq5, zq6]
      (first | (refine tkR 20 (v := ?_) rfl hS2 ⟨by rfl, ?_⟩ ?_; rotate_left; intro w h; (try dsimp only at h); first | (go_simp; done) | (go_simp; with_reducible rfl)) | refine skR 20 rfl (fun _ => hS2) (by rfl) ?_); simp only [zq1, zq2, zq3, Act.put, zq4, zq5, zq6]
      (first | (refine tkR 21 (v := ?_) rfl hS2 ⟨by rfl, ?_⟩ ?_; rotate_left; intro w h; (try dsimp only at h); first | (go_simp; done) | (go_simp; with_reducible rfl)) | refine skR 21 rfl (fun _ => hS2) (by rfl) ?_); simp only [zq1, zq2, zq3, Act.put, zq4, zq5, zq6]
      (first | (refine tkR 22 (v := ?_) rfl hS2 ⟨by rfl, ?_⟩ ?_; rotate_left; intro w h; (try dsimp only at h); first | (go_simp; done) | (go_simp; with_reducible rfl)) | refine skR 22 rfl (fun _ => hS2) (by rfl) ?_); simp only [zq1, zq2, zq3, Act.put, zq4, zq5, zq6]
      (first | (refine tkR 23 (v := ?_) rfl hS2 ⟨by rfl, ?_⟩ ?_; rotate_left; intro w h; (try dsimp only at h); first | (go_simp; done) | (go_simp; with_reducible rfl)) | refine skR 23 rfl (fun _ => hS2) (by rfl) ?_); simp only [zq1, zq2, zq3, Act.put, zq4, zq5, zq6]
      (first | (refine tkR 24 (v := ?_) rfl hS2 ⟨by rfl, ?_⟩ ?_; rotate_left; intro w h; (try dsimp only at h); first | (go_simp; done) | (go_simp; with_reducible rfl)) | refine skR 24 rfl (fun _ => hS2) (by rfl) ?_); simp only [zq1, zq2, zq3, Act.put, zq4, zq5, zq6]
      (first | (refine tkR 25 (v := ?_) rfl hS2 ⟨by rfl, ?_⟩ ?_; rotate_left; intro w h; (try dsimp only at h); first | (go_simp; done) | (go_simp; with_reducible rfl)) | refine skR 25 rfl (fun _ => hS2) (by rfl) ?_); simp only [zq1, zq2, zq3, Act.put, zq4, zq5, zq6]
      refine wpAnyR_done (by kernel_rfl) ?_ _
      have HK2 := Lib.hid (HK.out.then0 hk2)
      clear q0 q1 q2 q3 hk2 hS2
      go_wp2_with fail
      go_ret
      exact ⟨ret_bool (by rw [HB.out]), HK2.out⟩
set_option maxRecDepth 100000 in
set_option maxHeartbeats 3200000 in
theorem rightv_any (sb : Nat) (A : Option Addr) (n c : Nat) (x : V3) (w : World) (hc : w.cell? ⟨sb, 0, none⟩ = some (.slice A n c)) (hn : n ≤ 65536) (h0 : 0 ≤ x.lo) (h1 : x.lo ≤ 18446744073709551615) :
    Calls Tryz.prog 57 #[.pointer (some ⟨sb, 0, none⟩), .agg #[.int .u8 x.t, .int .u64 x.lo, .int .u64 x.hi]] w fun e w' => e = .returned (.bool (rightB n x)) ∧ Kept S0 w w' := by
  obtain ⟨t, lo, hi⟩ := x
  dsimp only at h0 h1
  have hka : Kept S0 w (w.alloc (.cells #[.int .u8 t, .int .u64 lo, .int .u64 hi] 65)) := (Kept.refl S0 w).alloc _
  have hB := Blk.new w 65 #[.int .u8 t, .int .u64 lo, .int .u64 hi]
  have un : IntKind.u64.wrap (n : Int) = (n : Int) := IntWalk.u64_in _ (by omega)
  have HK := Lib.hid hka.drew
  have Q0 := Lib.hid (hB.cell 0)
  have Q1 := Lib.hid (hB.cell 1)
  have Q2 := Lib.hid (hB.cell 2)
  have Q3 := Lib.hid (keep0 hka hc)
  clear hc hka hB
  cases hh : hasB t lo hi with
  | false =>
    have HB := Lib.hid (show rightB n ⟨t, lo, hi⟩ = false by unfold rightB; rw [hh]; rfl)
    have HH := Lib.hid hh
    clear hh
    go_enter Tryz.func57, Tryz.ntmps57
    go_wp2_with fail
    generalize w.alloc (.cells #[.int .u8 t, .int .u64 lo, .int .u64 hi] 65) = w1 at *
    generalize w.heap.size = bx at *
    have q0 : w1.drew.cell? ⟨bx, 0, none⟩ = some (.int .u8 t) := Q0.out
    have q1 : w1.drew.cell? ⟨bx, 1, none⟩ = some (.int .u64 lo) := Q1.out
    have q2 : w1.drew.cell? ⟨bx, 2, none⟩ = some (.int .u64 hi) := Q2.out
    have q3 : w1.drew.cell? ⟨sb, 0, none⟩ = some (.slice A n c) := Q3.out
    have hS : w1.drew.cell? ⟨bx, 0, none⟩ = some (.int .u8 t) ∧ w1.drew.cell? ⟨bx, 1, none⟩ = some (.int .u64 lo) ∧ w1.drew.cell? ⟨bx, 2, none⟩ = some (.int .u64 hi) ∧ w1.drew.cell? ⟨sb, 0, none⟩ = some (.slice A n c) := ⟨q0, q1, q2, q3⟩
    refine wp_region_R (fun w' => w'.cell? ⟨bx, 0, none⟩ = some (.int .u8 t) ∧ w'.cell? ⟨bx, 1, none⟩ = some (.int .u64 lo) ∧ w'.cell? ⟨bx, 2, none⟩ = some (.int .u64 hi) ∧ w'.cell? ⟨sb, 0, none⟩ = some (.slice A n c)) [] (by kernel_rfl) ?_
    generalize w1.drew = w3 at *
    (first | (refine tkR 0 (v := ?_) rfl hS ⟨by rfl, ?_⟩ ?_; rotate_left; intro w h; (try dsimp only at h); first | (go_simp; done) | (go_simp; with_reducible rfl)) | refine skR 0 rfl (fun _ => hS) (by rfl) ?_); simp only [zq1, zq2, Act.put, zq4, zq5, zq6]
    refine wpAnyR_one 1 rfl (by kernel_rfl) (fun K hK1 => ?_)
    go_simp
    go_at_call 84
    refine (rhas_any _ _ _ _ h0 h1).mono ?_
    rintro e w2 ⟨rfl, hk2⟩
    rw [HH.out]
    have hS2 : w2.cell? ⟨bx, 0, none⟩ = some (.int .u8 t) ∧ w2.cell? ⟨bx, 1, none⟩ = some (.int .u64 lo) ∧ w2.cell? ⟨bx, 2, none⟩ = some (.int .u64 hi) ∧ w2.cell? ⟨sb, 0, none⟩ = some (.slice A n c) := ⟨keep0 hk2 q0, keep0 hk2 q1, keep0 hk2 q2, keep0 hk2 q3⟩
    refine hK1.out _ _ (fun _ => hS2) ?_
    clear hK1 K hS
    (first | (refine tkR 2 (v := ?_) rfl hS2 ⟨by rfl, ?_⟩ ?_; rotate_left; intro w h; (try dsimp only at h); first | (go_simp; done) | (go_simp; with_reducible rfl)) | refine skR 2 rfl (fun _ => hS2) (by rfl) ?_); simp only [zq1, zq2, zq3, Act.put, zq4, zq5, zq6]
    (first | (refine tkR 3 (v := ?_) rfl hS2 ⟨by rfl, ?_⟩ ?_; rotate_left; intro w h; (try dsimp only at h); first | (go_simp; done) | (go_simp; with_reducible rfl)) | refine skR 3 rfl (fun _ => hS2) (by rfl) ?_); simp only [zq1, zq2, zq3, Act.put, zq4, zq5, zq6]
    (first | (refine tkR 4 (v := ?_) rfl hS2 ⟨by rfl, ?_⟩ ?_; rotate_left; intro w h; (try dsimp only at h); first | (go_simp; done) | (go_simp; with_reducible rfl)) | refine skR 4 rfl (fun _ => hS2) (by rfl) ?_); simp only [zq1, zq2, zq3, Act.put, zq4, zq5, zq6]
    (first | (refine tkR 5 (v := ?_) rfl hS2 ⟨by rfl, ?_⟩ ?_; rotate_left; intro w h; (try dsimp only at h); first | (go_simp; done) | (go_simp; with_reducible rfl)) | refine skR 5 rfl (fun _ => hS2) (by rfl) ?_); simp only [zq1, zq2, zq3, Act.put, zq4, zq5, zq6]
    (first | (refine tkR 6 (v := ?_) rfl hS2 ⟨by rfl, ?_⟩ ?_; rotate_left; intro w h; (try dsimp only at h); first | (go_simp; done) | (go_simp; with_reducible rfl)) | refine skR 6 rfl (fun _ => hS2) (by rfl) ?_); simp only [zq1, zq2, zq3, Act.put, zq4, zq5, zq6]
    (first | (refine tkR 7 (v := ?_) rfl hS2 ⟨by rfl, ?_⟩ ?_; rotate_left; intro w h; (try dsimp only at h); first | (go_simp; done) | (go_simp; with_reducible rfl)) | refine skR 7 rfl (fun _ => hS2) (by rfl) ?_); simp only [zq1, zq2, zq3, Act.put, zq4, zq5, zq6]
    (first | (refine tkR 8 (v := ?_) rfl hS2 ⟨by rfl, ?_⟩ ?_; rotate_left; intro w h; (try dsimp only at h); first | (go_simp; done) | (go_simp; with_reducible rfl)) | refine skR 8 rfl (fun _ => hS2) (by rfl) ?_); simp only [zq1, zq2, zq3, Act.put, zq4, zq5, zq6]
    (first | (refine tkR 9 (v := ?_) rfl hS2 ⟨by rfl, ?_⟩ ?_; rotate_left; intro w h; (try dsimp only at h); first | (go_simp; done) | (go_simp; with_reducible rfl)) | refine skR 9 rfl (fun _ => hS2) (by rfl) ?_); simp only [zq1, zq2, zq3, Act.put, zq4, zq5, zq6]
    (first | (refine tkR 10 (v := ?_) rfl hS2 ⟨by rfl, ?_⟩ ?_; rotate_left; intro w h; (try dsimp only at h); first | (go_simp; done) | (go_simp; with_reducible rfl)) | refine skR 10 rfl (fun _ => hS2) (by rfl) ?_); simp only [zq1, zq2, zq3, Act.put, zq4, zq5, zq6]
    (first | (refine tkR 11 (v := ?_) rfl hS2 ⟨by rfl, ?_⟩ ?_; rotate_left; intro w h; (try dsimp only at h); first | (go_simp; done) | (go_simp; with_reducible rfl)) | refine skR 11 rfl (fun _ => hS2) (by rfl) ?_); simp only [zq1, zq2, zq3, Act.put, zq4, zq5, zq6]
    (first | (refine tkR 12 (v := ?_) rfl hS2 ⟨by rfl, ?_⟩ ?_; rotate_left; intro w h; (try dsimp only at h); first | (go_simp; done) | (go_simp; with_reducible rfl)) | refine skR 12 rfl (fun _ => hS2) (by rfl) ?_); simp only [zq1, zq2, zq3, Act.put, zq4, zq5, zq6]
    (first | (refine tkR 13 (v := ?_) rfl hS2 ⟨by rfl, ?_⟩ ?_; rotate_left; intro w h; (try dsimp only at h); first | (go_simp; done) | (go_simp; with_reducible rfl)) | refine skR 13 rfl (fun _ => hS2) (by rfl) ?_); simp only [zq1, zq2, zq3, Act.put, zq4, zq5, zq6]
    (first | (refine tkR 14 (v := ?_) rfl hS2 ⟨by rfl, ?_⟩ ?_; rotate_left; intro w h; (try dsimp only at h); first | (go_simp; done) | (go_simp; with_reducible rfl)) | refine skR 14 rfl (fun _ => hS2) (by rfl) ?_); simp only [zq1, zq2, zq3, Act.put, zq4, zq5, zq6]
    (first | (refine tkR 15 (v := ?_) rfl hS2 ⟨by rfl, ?_⟩ ?_; rotate_left; intro w h; (try dsimp only at h); first | (go_simp; done) | (go_simp; with_reducible rfl)) | refine skR 15 rfl (fun _ => hS2) (by rfl) ?_); simp only [zq1, zq2, zq3, Act.put, zq4, zq5, zq6]
    (first | (refine tkR 16 (v := ?_) rfl hS2 ⟨by rfl, ?_⟩ ?_; rotate_left; intro w h; (try dsimp only at h); first | (go_simp; done) | (go_simp; with_reducible rfl)) | refine skR 16 rfl (fun _ => hS2) (by rfl) ?_); simp only [zq1, zq2, zq3, Act.put, zq4, zq5, zq6]
    (first | (refine tkR 17 (v := ?_) rfl hS2 ⟨by rfl, ?_⟩ ?_; rotate_left; intro w h; (try dsimp only at h); first | (go_simp; done) | (go_simp; with_reducible rfl)) | refine skR 17 rfl (fun _ => hS2) (by rfl) ?_); simp only [zq1, zq2, zq3, Act.put, zq4, zq5, zq6]
    (first | (refine tkR 18 (v := ?_) rfl hS2 ⟨by rfl, ?_⟩ ?_; rotate_left; intro w h; (try dsimp only at h); first | (go_simp; done) | (go_simp; with_reducible rfl)) | refine skR 18 rfl (fun _ => hS2) (by rfl) ?_); simp only [zq1, zq2, zq3, Act.put, zq4, zq5, zq6]
    refine wpAnyR_done (by kernel_rfl) ?_ _
    have HK2 := Lib.hid (HK.out.then0 hk2)
    clear q0 q1 q2 q3 hk2 hS2
    go_wp2_with fail
    go_ret
    exact ⟨ret_bool (by rw [HB.out]), HK2.out⟩
  | true =>
    by_cases ht : t = 112
    · have HB := Lib.hid (show rightB n ⟨t, lo, hi⟩ = decide (lo ≤ (n : Int)) by unfold rightB; rw [hh]; simp only [ht]; simp)
      have g1 : (t != 112) = false := by rw [ht]; rfl
      have HH := Lib.hid hh
      clear hh ht
      go_enter Tryz.func57, Tryz.ntmps57
      go_wp2_with fail
      generalize w.alloc (.cells #[.int .u8 t, .int .u64 lo, .int .u64 hi] 65) = w1 at *
      generalize w.heap.size = bx at *
      have q0 : w1.drew.cell? ⟨bx, 0, none⟩ = some (.int .u8 t) := Q0.out
      have q1 : w1.drew.cell? ⟨bx, 1, none⟩ = some (.int .u64 lo) := Q1.out
      have q2 : w1.drew.cell? ⟨bx, 2, none⟩ = some (.int .u64 hi) := Q2.out
      have q3 : w1.drew.cell? ⟨sb, 0, none⟩ = some (.slice A n c) := Q3.out
      have hS : w1.drew.cell? ⟨bx, 0, none⟩ = some (.int .u8 t) ∧ w1.drew.cell? ⟨bx, 1, none⟩ = some (.int .u64 lo) ∧ w1.drew.cell? ⟨bx, 2, none⟩ = some (.int .u64 hi) ∧ w1.drew.cell? ⟨sb, 0, none⟩ = some (.slice A n c) := ⟨q0, q1, q2, q3⟩
      refine wp_region_R (fun w' => w'.cell? ⟨bx, 0, none⟩ = some (.int .u8 t) ∧ w'.cell? ⟨bx, 1, none⟩ = some (.int .u64 lo) ∧ w'.cell? ⟨bx, 2, none⟩ = some (.int .u64 hi) ∧ w'.cell? ⟨sb, 0, none⟩ = some (.slice A n c)) [] (by kernel_rfl) ?_
      generalize w1.drew = w3 at *
      (first | (refine tkR 0 (v := ?_) rfl hS ⟨by rfl, ?_⟩ ?_; rotate_left; intro w h; (try dsimp only at h); first | (go_simp; done) | (go_simp; with_reducible rfl)) | refine skR 0 rfl (fun _ => hS) (by rfl) ?_); simp only [zq1, zq2, Act.put, zq4, zq5, zq6]
      refine wpAnyR_one 1 rfl (by kernel_rfl) (fun K hK1 => ?_)
      go_simp
      go_at_call 84
      refine (rhas_any _ _ _ _ h0 h1).mono ?_
      rintro e w2 ⟨rfl, hk2⟩
      rw [HH.out]
      have hS2 : w2.cell? ⟨bx, 0, none⟩ = some (.int .u8 t) ∧ w2.cell? ⟨bx, 1, none⟩ = some (.int .u64 lo) ∧ w2.cell? ⟨bx, 2, none⟩ = some (.int .u64 hi) ∧ w2.cell? ⟨sb, 0, none⟩ = some (.slice A n c) := ⟨keep0 hk2 q0, keep0 hk2 q1, keep0 hk2 q2, keep0 hk2 q3⟩
      refine hK1.out _ _ (fun _ => hS2) ?_
      clear hK1 K hS
      (first | (refine tkR 2 (v := ?_) rfl hS2 ⟨by rfl, ?_⟩ ?_; rotate_left; intro w h; (try dsimp only at h); first | (go_simp; done) | (go_simp; with_reducible rfl)) | refine skR 2 rfl (fun _ => hS2) (by rfl) ?_); simp only [zq1, zq2, zq3, Act.put, zq4, zq5, zq6]
      (first | (refine tkR 3 (v := ?_) rfl hS2 ⟨by rfl, ?_⟩ ?_; rotate_left; intro w h; (try dsimp only at h); first | (go_simp; done) | (go_simp; with_reducible rfl)) | refine skR 3 rfl (fun _ => hS2) (by rfl) ?_); simp only [zq1, zq2, zq3, Act.put, zq4, zq5, zq6]
      (first | (refine tkR 4 (v := ?_) rfl hS2 ⟨by rfl, ?_⟩ ?_; rotate_left; intro w h; (try dsimp only at h); first | (go_simp; done) | (go_simp; with_reducible rfl)) | refine skR 4 rfl (fun _ => hS2) (by rfl) ?_); simp only [zq1, zq2, zq3, Act.put, zq4, zq5, zq6]
      (first | (refine tkR 5 (v := ?_) rfl hS2 ⟨by rfl, ?_⟩ ?_; rotate_left; intro w h; (try dsimp only at h); first | (go_simp; done) | (go_simp; with_reducible rfl)) | refine skR 5 rfl (fun _ => hS2) (by rfl) ?_); simp only [zq1, zq2, zq3, Act.put, zq4, zq5, zq6]
      (first | (refine tkR 6 (v := ?_) rfl hS2 ⟨by rfl, ?_⟩ ?_; rotate_left; intro w h; (try dsimp only at h); first | (go_simp; done) | (go_simp; with_reducible rfl)) | refine skR 6 rfl (fun _ => hS2) (by rfl) ?_); simp only [zq1, zq2, zq3, Act.put, zq4, zq5, zq6]
      (first | (refine tkR 7 (v := ?_) rfl hS2 ⟨by rfl, ?_⟩ ?_; rotate_left; intro w h; (try dsimp only at h); first | (go_simp; done) | (go_simp; with_reducible rfl)) | refine skR 7 rfl (fun _ => hS2) (by rfl) ?_); simp only [zq1, zq2, zq3, Act.put, zq4, zq5, zq6]
      (first | (refine tkR 8 (v := ?_) rfl hS2 ⟨by rfl, ?_⟩ ?_; rotate_left; intro w h; (try dsimp only at h); first | (go_simp; done) | (go_simp; with_reducible rfl)) | refine skR 8 rfl (fun _ => hS2) (by rfl) ?_); simp only [zq1, zq2, zq3, Act.put, zq4, zq5, zq6]
      (first | (refine tkR 9 (v := ?_) rfl hS2 ⟨by rfl, ?_⟩ ?_; rotate_left; intro w h; (try dsimp only at h); first | (go_simp; done) | (go_simp; with_reducible rfl)) | refine skR 9 rfl (fun _ => hS2) (by rfl) ?_); simp only [zq1, zq2, zq3, Act.put, zq4, zq5, zq6]
      (first | (refine tkR 10 (v := ?_) rfl hS2 ⟨by rfl, ?_⟩ ?_; rotate_left; intro w h; (try dsimp only at h); first | (go_simp; done) | (go_simp; with_reducible rfl)) | refine skR 10 rfl (fun _ => hS2) (by rfl) ?_); simp only [zq1, zq2, zq3, Act.put, zq4, zq5, zq6]
      (first | (refine tkR 11 (v := ?_) rfl hS2 ⟨by rfl, ?_⟩ ?_; rotate_left; intro w h; (try dsimp only at h); first | (go_simp; done) | (go_simp; with_reducible rfl)) | refine skR 11 rfl (fun _ => hS2) (by rfl) ?_); simp only [zq1, zq2, zq3, Act.put, zq4, zq5, zq6]
      (first | (refine tkR 12 (v := ?_) rfl hS2 ⟨by rfl, ?_⟩ ?_; rotate_left; intro w h; (try dsimp only at h); first | (go_simp; done) | (go_simp; with_reducible rfl)) | refine skR 12 rfl (fun _ => hS2) (by rfl) ?_); simp only [zq1, zq2, zq3, Act.put, zq4, zq5, zq6]
      (first | (refine tkR 13 (v := ?_) rfl hS2 ⟨by rfl, ?_⟩ ?_; rotate_left; intro w h; (try dsimp only at h); first | (go_simp; done) | (go_simp; with_reducible rfl)) | refine skR 13 rfl (fun _ => hS2) (by rfl) ?_); simp only [zq1, zq2, zq3, Act.put, zq4, zq5, zq6]
      (first | (refine tkR 14 (v := ?_) rfl hS2 ⟨by rfl, ?_⟩ ?_; rotate_left; intro w h; (try dsimp only at h); first | (go_simp; done) | (go_simp; with_reducible rfl)) | refine skR 14 rfl (fun _ => hS2) (by rfl) ?_); simp only [zq1, zq2, zq3, Act.put, zq4, zq5, zq6]
      (first | (refine tkR 15 (v := ?_) rfl hS2 ⟨by rfl, ?_⟩ ?_; rotate_left; intro w h; (try dsimp only at h); first | (go_simp; done) | (go_simp; with_reducible rfl)) | refine skR 15 rfl (fun _ => hS2) (by rfl) ?_); simp only [zq1, zq2, zq3, Act.put, zq4, zq5, zq6]
      (first | (refine tkR 16 (v := ?_) rfl hS2 ⟨by rfl, ?_⟩ ?_; rotate_left; intro w h; (try dsimp only at h); first | (go_simp; done) | (go_simp; with_reducible rfl)) | refine skR 16 rfl (fun _ => hS2) (by rfl) ?_); simp only [zq1, zq2, zq3, Act.put, zq4, zq5, zq6]
      (first | (refine tkR 17 (v := ?_) rfl hS2 ⟨by rfl, ?_⟩ ?_; rotate_left; intro w h; (try dsimp only at h); first | (go_simp; done) | (go_simp; with_reducible rfl)) | refine skR 17 rfl (fun _ => hS2) (by rfl) ?_); simp only [zq1, zq2, zq3, Act.put, zq4, zq5, zq6]
      (first | (refine tkR 18 (v := ?_) rfl hS2 ⟨by rfl, ?_⟩ ?_; rotate_left; intro w h; (try dsimp only at h); first | (go_simp; done) | (go_simp; with_reducible rfl)) | refine skR 18 rfl (fun _ => hS2) (by rfl) ?_); simp only [zq1, zq2, zq3, Act.put, zq4, zq5, zq6]
      refine wpAnyR_done (by kernel_rfl) ?_ _
      have HK2 := Lib.hid (HK.out.then0 hk2)
      clear q0 q1 q2 q3 hk2 hS2
      go_wp2_with fail
      go_ret
      exact ⟨ret_bool (by rw [HB.out]), HK2.out⟩
    · have HB := Lib.hid (show rightB n ⟨t, lo, hi⟩ = true by unfold rightB; rw [hh]; simp [ht])
      have g1 : (t != 112) = true := bne_iff_ne.2 ht
      have HH := Lib.hid hh
      clear hh ht
      go_enter Tryz.func57, Tryz.ntmps57
      go_wp2_with fail
      generalize w.alloc (.cells #[.int .u8 t, .int .u64 lo, .int .u64 hi] 65) = w1 at *
      generalize w.heap.size = bx at *
      have q0 : w1.drew.cell? ⟨bx, 0, none⟩ = some (.int .u8 t) := Q0.out
      have q1 : w1.drew.cell? ⟨bx, 1, none⟩ = some (.int .u64 lo) := Q1.out
      have q2 : w1.drew.cell? ⟨bx, 2, none⟩ = some (.int .u64 hi) := Q2.out
      have q3 : w1.drew.cell? ⟨sb, 0, none⟩ = some (.slice A n c) := Q3.out
      have hS : w1.drew.cell? ⟨bx, 0, none⟩ = some (.int .u8 t) ∧ w1.drew.cell? ⟨bx, 1, none⟩ = some (.int .u64 lo) ∧ w1.drew.cell? ⟨bx, 2, none⟩ = some (.int .u64 hi) ∧ w1.drew.cell? ⟨sb, 0, none⟩ = some (.slice A n c) := ⟨q0, q1, q2, q3⟩
      refine wp_region_R (fun w' => w'.cell? ⟨bx, 0, none⟩ = some (.int .u8 t) ∧ w'.cell? ⟨bx, 1, none⟩ = some (.int .u64 lo) ∧ w'.cell? ⟨bx, 2, none⟩ = some (.int .u64 hi) ∧ w'.cell? ⟨sb, 0, none⟩ = some (.slice A n c)) [] (by kernel_rfl) ?_
      generalize w1.drew = w3 at *
      (first | (refine tkR 0 (v := ?_) rfl hS ⟨by rfl, ?_⟩ ?_; rotate_left; intro w h; (try dsimp only at h); first | (go_simp; done) | (go_simp; with_reducible rfl)) | refine skR 0 rfl (fun _ => hS) (by rfl) ?_); simp only [zq1, zq2, Act.put, zq4, zq5, zq6]
      refine wpAnyR_one 1 rfl (by kernel_rfl) (fun K hK1 => ?_)
      go_simp
      go_at_call 84
      refine (rhas_any _ _ _ _ h0 h1).mono ?_
      rintro e w2 ⟨rfl, hk2⟩
      rw [HH.out]
      have hS2 : w2.cell? ⟨bx, 0, none⟩ = some (.int .u8 t) ∧ w2.cell? ⟨bx, 1, none⟩ = some (.int .u64 lo) ∧ w2.cell? ⟨bx, 2, none⟩ = some (.int .u64 hi) ∧ w2.cell? ⟨sb, 0, none⟩ = some (.slice A n c) := ⟨keep0 hk2 q0, keep0 hk2 q1, keep0 hk2 q2, keep0 hk2 q3⟩
      refine hK1.out _ _ (fun _ => hS2) ?_
      clear hK1 K hS
      (first | (refine tkR 2 (v := ?_) rfl hS2 ⟨by rfl, ?_⟩ ?_; rotate_left; intro w h; (try dsimp only at h); first | (go_simp; done) | (go_simp; with_reducible rfl)) | refine skR 2 rfl (fun _ => hS2) (by rfl) ?_); simp only [zq1, zq2, zq3, Act.put, zq4, zq5, zq6]
      (first | (refine tkR 3 (v := ?_) rfl hS2 ⟨by rfl, ?_⟩ ?_; rotate_left; intro w h; (try dsimp only at h); first | (go_simp; done) | (go_simp; with_reducible rfl)) | refine skR 3 rfl (fun _ => hS2) (by rfl) ?_); simp only [zq1, zq2, zq3, Act.put, zq4, zq5, zq6]
      (first | (refine tkR 4 (v := ?_) rfl hS2 ⟨by rfl, ?_⟩ ?_; rotate_left; intro w h; (try dsimp only at h); first | (go_simp; done) | (go_simp; with_reducible rfl)) | refine skR 4 rfl (fun _ => hS2) (by rfl) ?_); simp only [zq1, zq2, zq3, Act.put, zq4, zq5, zq6]
      (first | (refine tkR 5 (v := ?_) rfl hS2 ⟨by rfl, ?_⟩ ?_; rotate_left; intro w h; (try dsimp only at h); first | (go_simp; done) | (go_simp; with_reducible rfl)) | refine skR 5 rfl (fun _ => hS2) (by rfl) ?_); simp only [zq1, zq2, zq3, Act.put, zq4, zq5, zq6]
      (first | (refine tkR 6 (v := ?_) rfl hS2 ⟨by rfl, ?_⟩ ?_; rotate_left; intro w h; (try dsimp only at h); first | (go_simp; done) | (go_simp; with_reducible rfl)) | refine skR 6 rfl (fun _ => hS2) (by rfl) ?_); simp only [zq1, zq2, zq3, Act.put, zq4, zq5, zq6]
      (first | (refine tkR 7 (v := ?_) rfl hS2 ⟨by rfl, ?_⟩ ?_; rotate_left; intro w h; (try dsimp only at h); first | (go_simp; done) | (go_simp; with_reducible rfl)) | refine skR 7 rfl (fun _ => hS2) (by rfl) ?_); simp only [zq1, zq2, zq3, Act.put, zq4, zq5, zq6]
      (first | (refine tkR 8 (v := ?_) rfl hS2 ⟨by rfl, ?_⟩ ?_; rotate_left; intro w h; (try dsimp only at h); first | (go_simp; done) | (go_simp; with_reducible rfl)) | refine skR 8 rfl (fun _ => hS2) (by rfl) ?_); simp only [zq1, zq2, zq3, Act.put, zq4, zq5, zq6]
      (first | (refine tkR 9 (v := ?_) rfl hS2 ⟨by rfl, ?_⟩ ?_; rotate_left; intro w h; (try dsimp only at h); first | (go_simp; done) | (go_simp; with_reducible rfl)) | refine skR 9 rfl (fun _ => hS2) (by rfl) ?_); simp only [zq1, zq2, zq3, Act.put, zq4, zq5, zq6]
      (first | (refine tkR 10 (v := ?_) rfl hS2 ⟨by rfl, ?_⟩ ?_; rotate_left; intro w h; (try dsimp only at h); first | (go_simp; done) | (go_simp; with_reducible rfl)) | refine skR 10 rfl (fun _ => hS2) (by rfl) ?_); simp only [zq1, zq2, zq3, Act.put, zq4, zq5, zq6]
      (first | (refine tkR 11 (v := ?_) rfl hS2 ⟨by rfl, ?_⟩ ?_; rotate_left; intro w h; (try dsimp only at h); first | (go_simp; done) | (go_simp; with_reducible rfl)) | refine skR 11 rfl (fun _ => hS2) (by rfl) ?_); simp only [zq1, zq2, zq3, Act.put, zq4, zq5, zq6]
      (first | (refine tkR 12 (v := ?_) rfl hS2 ⟨by rfl, ?_⟩ ?_; rotate_left; intro w h; (try dsimp only at h); first | (go_simp; done) | (go_simp; with_reducible rfl)) | refine skR 12 rfl (fun _ => hS2) (by rfl) ?_); simp only [zq1, zq2, zq3, Act.put, zq4, zq5, zq6]
      (first | (refine tkR 13 (v := ?_) rfl hS2 ⟨by rfl, ?_⟩ ?_; rotate_left; intro w h; (try dsimp only at h); first | (go_simp; done) | (go_simp; with_reducible rfl)) | refine skR 13 rfl (fun _ => hS2) (by rfl) ?_); simp only [zq1, zq2, zq3, Act.put, zq4, zq5, zq6]
      (first | (refine tkR 14 (v := ?_) rfl hS2 ⟨by rfl, ?_⟩ ?_; rotate_left; intro w h; (try dsimp only at h); first | (go_simp; done) | (go_simp; with_reducible rfl)) | refine skR 14 rfl (fun _ => hS2) (by rfl) ?_); simp only [zq1, zq2, zq3, Act.put, zq4, zq5, zq6]
      (first | (refine tkR 15 (v := ?_) rfl hS2 ⟨by rfl, ?_⟩ ?_; rotate_left; intro w h; (try dsimp only at h); first | (go_simp; done) | (go_simp; with_reducible rfl)) | refine skR 15 rfl (fun _ => hS2) (by rfl) ?_); simp only [zq1, zq2, zq3, Act.put, zq4, zq5, zq6]
      (first | (refine tkR 16 (v := ?_) rfl hS2 ⟨by rfl, ?_⟩ ?_; rotate_left; intro w h; (try dsimp only at h); first | (go_simp; done) | (go_simp; with_reducible rfl)) | refine skR 16 rfl (fun _ => hS2) (by rfl) ?_); simp only [zq1, zq2, zq3, Act.put, zq4, zq5, zq6]
      (first | (refine tkR 17 (v := ?_) rfl hS2 ⟨by rfl, ?_⟩ ?_; rotate_left; intro w h; (try dsimp only at h); first | (go_simp; done) | (go_simp; with_reducible rfl)) | refine skR 17 rfl (fun _ => hS2) (by rfl) ?_); simp only [zq1, zq2, zq3, Act.put, zq4, zq5, zq6]
      (first | (refine tkR 18 (v := ?_) rfl hS2 ⟨by rfl, ?_⟩ ?_; rotate_left; intro w h; (try dsimp only at h); first | (go_simp; done) | (go_simp; with_reducible rfl)) | refine skR 18 rfl (fun _ => hS2) (by rfl) ?_); simp only [zq1, zq2, zq3, Act.put, zq4, zq5, zq6]
      refine wpAnyR_done (by kernel_rfl) ?_ _
      have HK2 := Lib.hid (HK.out.then0 hk2)
      clear q0 q1 q2 q3 hk2 hS2
      go_wp2_with fail
      go_ret
      exact ⟨ret_bool (by rw [HB.out]), HK2.out⟩
end Go.Proofs.YtlnkdnmeikpckaaGreat
namespace Go.Proofs.YtlnkdnmeikpckaaGreat
open Go.RowKit
set_option maxRecDepth 100000
set_option maxRecDepth 100000 in
set_option maxHeartbeats 3200000 in
theorem rsizes_any {w : World} {rb : Nat} {A0 A1 A2 A3 A4 A5 A6 : Option Addr} {n0 n1 n2 n3 n4 n5 n6 c0 c1 c2 c3 c4 c5 c6 : Nat} (hb : Blk w rb 89 (rCells (.slice A0 n0 c0) (.slice A1 n1 c1) (.slice A2 n2 c2) (.slice A3 n3 c3) (.slice A4 n4 c4) (.slice A5 n5 c5) (.slice A6 n6 c6))) :
    Calls Tryz.prog 9 #[.pointer (some ⟨rb, 0, none⟩)] w fun e w' => e = .returned (.agg #[.int .i64 (n0 : Int), .int .i64 (n1 : Int), .int .i64 (n2 : Int), .int .i64 (n3 : Int), .int .i64 (n4 : Int), .int .i64 (n5 : Int), .int .i64 (n6 : Int)]) ∧ Kept S0 w w' := by
  have hka : Kept S0 w (w.alloc (.cells #[.int .i64 0, .int .i64 0, .int .i64 0, .int .i64 0, .int .i64 0, .int .i64 0, .int .i64 0] 43)) := (Kept.refl S0 w).alloc _
  have hr := Blk.new w 43 #[.int .i64 0, .int .i64 0, .int .i64 0, .int .i64 0, .int .i64 0, .int .i64 0, .int .i64 0]
  have HB1 := Lib.hid (hka.blk hb (fun x => x))
  have HR := Lib.hid hr
  have HK := Lib.hid hka
  clear hb hka hr
  go_enter Tryz.func9, Tryz.ntmps9
  go_wp2_with fail
  generalize hxb : w.heap.size = xb at *
  refine wp_region_R (fun w' => w'.cell? ⟨rb, 0, none⟩ = some (.slice A0 n0 c0) ∧ w'.cell? ⟨rb, 1, none⟩ = some (.slice A1 n1 c1) ∧ w'.cell? ⟨rb, 2, none⟩ = some (.slice A2 n2 c2) ∧ w'.cell? ⟨rb, 3, none⟩ = some (.slice A3 n3 c3) ∧ w'.cell? ⟨rb, 4, none⟩ = some (.slice A4 n4 c4) ∧ w'.cell? ⟨rb, 5, none⟩ = some (.slice A5 n5 c5) ∧ w'.cell? ⟨rb, 6, none⟩ = some (.slice A6 n6 c6)) [36] (by kernel_rfl) ?_
  have hd := HK.out.drew
  have hb2 := HB1.out.drew
  have hr2 := HR.out.drew
  generalize (w.alloc (.cells #[.int .i64 0, .int .i64 0, .int .i64 0, .int .i64 0, .int .i64 0, .int .i64 0, .int .i64 0] 43)).drew = w1 at *
  have hS : w1.cell? ⟨rb, 0, none⟩ = some (.slice A0 n0 c0) ∧ w1.cell? ⟨rb, 1, none⟩ = some (.slice A1 n1 c1) ∧ w1.cell? ⟨rb, 2, none⟩ = some (.slice A2 n2 c2) ∧ w1.cell? ⟨rb, 3, none⟩ = some (.slice A3 n3 c3) ∧ w1.cell? ⟨rb, 4, none⟩ = some (.slice A4 n4 c4) ∧ w1.cell? ⟨rb, 5, none⟩ = some (.slice A5 n5 c5) ∧ w1.cell? ⟨rb, 6, none⟩ = some (.slice A6 n6 c6) := ⟨hb2.cell 0, hb2.cell 1, hb2.cell 2, hb2.cell 3, hb2.cell 4, hb2.cell 5, hb2.cell 6⟩
  have r0 := hr2.cell 0
  have q0 := hr2.frozen 0
  have r1 := hr2.cell 1
  have q1 := hr2.frozen 1
  have r2 := hr2.cell 2
  have q2 := hr2.frozen 2
  have r3 := hr2.cell 3
  have q3 := hr2.frozen 3
  have r4 := hr2.cell 4
  have q4 := hr2.frozen 4
  have r5 := hr2.cell 5
  have q5 := hr2.frozen 5
  have r6 := hr2.cell 6
  have q6 := hr2.frozen 6
  have HR4 := Lib.hid (show Blk (((((((w1.setCell ⟨xb, 0, none⟩ (.int .i64 (n0 : Int))).setCell ⟨xb, 1, none⟩ (.int .i64 (n1 : Int))).setCell ⟨xb, 2, none⟩ (.int .i64 (n2 : Int))).setCell ⟨xb, 3, none⟩ (.int .i64 (n3 : Int))).setCell ⟨xb, 4, none⟩ (.int .i64 (n4 : Int))).setCell ⟨xb, 5, none⟩ (.int .i64 (n5 : Int))).setCell ⟨xb, 6, none⟩ (.int .i64 (n6 : Int))) xb 43 #[.int .i64 (n0 : Int), .int .i64 (n1 : Int), .int .i64 (n2 : Int), .int .i64 (n3 : Int), .int .i64 (n4 : Int), .int .i64 (n5 : Int), .int .i64 (n6 : Int)] from (((((((hr2.set_ 0 (.int .i64 (n0 : Int))).set_ 1 (.int .i64 (n1 : Int))).set_ 2 (.int .i64 (n2 : Int))).set_ 3 (.int .i64 (n3 : Int))).set_ 4 (.int .i64 (n4 : Int))).set_ 5 (.int .i64 (n5 : Int))).set_ 6 (.int .i64 (n6 : Int))))
  have HK4 := Lib.hid (hd.trans_ ((((((((Kept.refl (S1 xb) w1).setCell (p := ⟨xb, 0, none⟩) (.inl rfl) (.int .i64 (n0 : Int))).setCell (p := ⟨xb, 1, none⟩) (.inl rfl) (.int .i64 (n1 : Int))).setCell (p := ⟨xb, 2, none⟩) (.inl rfl) (.int .i64 (n2 : Int))).setCell (p := ⟨xb, 3, none⟩) (.inl rfl) (.int .i64 (n3 : Int))).setCell (p := ⟨xb, 4, none⟩) (.inl rfl) (.int .i64 (n4 : Int))).setCell (p := ⟨xb, 5, none⟩) (.inl rfl) (.int .i64 (n5 : Int))).setCell (p := ⟨xb, 6, none⟩) (.inl rfl) (.int .i64 (n6 : Int))) (fun i e => .inr (by have e' : i = xb := e; omega)))
  clear hd hb2 hr2 HB1 HR HK
  (first | (refine tkR 0 (v := ?_) rfl hS ⟨by rfl, ?_⟩ ?_; rotate_left; intro w h; (try dsimp only at h); first | (go_simp; done) | (go_simp; with_reducible rfl)) | refine skR 0 rfl (fun _ => hS) (by rfl) ?_); simp only [zq1, zq2, Act.put, zq4, zq5, zq6]
  (first | (refine tkR 1 (v := ?_) rfl hS ⟨by rfl, ?_⟩ ?_; rotate_left; intro w h; (try dsimp only at h); first | (go_simp; done) | (go_simp; with_reducible rfl)) | refine skR 1 rfl (fun _ => hS) (by rfl) ?_); simp only [zq1, zq2, zq3, Act.put, zq4, zq5, zq6]
  (first | (refine tkR 2 (v := ?_) rfl hS ⟨by rfl, ?_⟩ ?_; rotate_left; intro w h; (try dsimp only at h); first | (go_simp; done) | (go_simp; with_reducible rfl)) | refine skR 2 rfl (fun _ => hS) (by rfl) ?_); simp only [zq1, zq2, zq3, Act.put, zq4, zq5, zq6]
  (first | (refine tkR 3 (v := ?_) rfl hS ⟨by rfl, ?_⟩ ?_; rotate_left; intro w h; (try dsimp only at h); first | (go_simp; done) | (go_simp; with_reducible rfl)) | refine skR 3 rfl (fun _ => hS) (by rfl) ?_); simp only [zq1, zq2, zq3, Act.put, zq4, zq5, zq6]
  (first | (refine tkR 4 (v := ?_) rfl hS ⟨by rfl, ?_⟩ ?_; rotate_left; intro w h; (try dsimp only at h); first | (go_simp; done) | (go_simp; with_reducible rfl)) | refine skR 4 rfl (fun _ => hS) (by rfl) ?_); simp only [zq1, zq2, zq3, Act.put, zq4, zq5, zq6]
  (first | (refine tkR 5 (v := ?_) rfl hS ⟨by rfl, ?_⟩ ?_; rotate_left; intro w h; (try dsimp only at h); first | (go_simp; done) | (go_simp; with_reducible rfl)) | refine skR 5 rfl (fun _ => hS) (by rfl) ?_); simp only [zq1, zq2, zq3, Act.put, zq4, zq5, zq6]
  (first | (refine tkR 6 (v := ?_) rfl hS ⟨by rfl, ?_⟩ ?_; rotate_left; intro w h; (try dsimp only at h); first | (go_simp; done) | (go_simp; with_reducible rfl)) | refine skR 6 rfl (fun _ => hS) (by rfl) ?_); simp only [zq1, zq2, zq3, Act.put, zq4, zq5, zq6]
  (first | (refine tkR 7 (v := ?_) rfl hS ⟨by rfl, ?_⟩ ?_; rotate_left; intro w h; (try dsimp only at h); first | (go_simp; done) | (go_simp; with_reducible rfl)) | refine skR 7 rfl (fun _ => hS) (by rfl) ?_); simp only [zq1, zq2, zq3, Act.put, zq4, zq5, zq6]
  (first | (refine tkR 8 (v := ?_) rfl hS ⟨by rfl, ?_⟩ ?_; rotate_left; intro w h; (try dsimp only at h); first | (go_simp; done) | (go_simp; with_reducible rfl)) | refine skR 8 rfl (fun _ => hS) (by rfl) ?_); simp only [zq1, zq2, zq3, Act.put, zq4, zq5, zq6]
  (first | (refine tkR 9 (v := ?_) rfl hS ⟨by rfl, ?_⟩ ?_; rotate_left; intro w h; (try dsimp only at h); first | (go_simp; done) | (go_simp; with_reducible rfl)) | refine skR 9 rfl (fun _ => hS) (by rfl) ?_); simp only [zq1, zq2, zq3, Act.put, zq4, zq5, zq6]
  (first | (refine tkR 10 (v := ?_) rfl hS ⟨by rfl, ?_⟩ ?_; rotate_left; intro w h; (try dsimp only at h); first | (go_simp; done) | (go_simp; with_reducible rfl)) | refine skR 10 rfl (fun _ => hS) (by rfl) ?_); simp only [zq1, zq2, zq3, Act.put, zq4, zq5, zq6]
  (first | (refine tkR 11 (v := ?_) rfl hS ⟨by rfl, ?_⟩ ?_; rotate_left; intro w h; (try dsimp only at h); first | (go_simp; done) | (go_simp; with_reducible rfl)) | refine skR 11 rfl (fun _ => hS) (by rfl) ?_); simp only [zq1, zq2, zq3, Act.put, zq4, zq5, zq6]
  (first | (refine tkR 12 (v := ?_) rfl hS ⟨by rfl, ?_⟩ ?_; rotate_left; intro w h; (try dsimp only at h); first | (go_simp; done) | (go_simp; with_reducible rfl)) | refine skR 12 rfl (fun _ => hS) (by rfl) ?_); simp only [zq1, zq2, zq3, Act.put, zq4, zq5, zq6]
  (first | (refine tkR 13 (v := ?_) rfl hS ⟨by rfl, ?_⟩ ?_; rotate_left; intro w h; (try dsimp only at h); first | (go_simp; done) | (go_simp; with_reducible rfl)) | refine skR 13 rfl (fun _ => hS) (by rfl) ?_); simp only [zq1, zq2, zq3, Act.put, zq4, zq5, zq6]
  (first | (refine tkR 14 (v := ?_) rfl hS ⟨by rfl, ?_⟩ ?_; rotate_left; intro w h; (try dsimp only at h); first | (go_simp; done) | (go_simp; with_reducible rfl)) | refine skR 14 rfl (fun _ => hS) (by rfl) ?_); simp only [zq1, zq2, zq3, Act.put, zq4, zq5, zq6]
  (first | (refine tkR 15 (v := ?_) rfl hS ⟨by rfl, ?_⟩ ?_; rotate_left; intro w h; (try dsimp only at h); first | (go_simp; done) | (go_simp; with_reducible rfl)) | refine skR 15 rfl (fun _ => hS) (by rfl) ?_); simp only [zq1, zq2, zq3, Act.put, zq4, zq5, zq6]
  (first | (refine tkR 16 (v := ?_) rfl hS ⟨by rfl, ?_⟩ ?_; rotate_left; intro w h; (try dsimp only at h); first | (go_simp; done) | (go_simp; with_reducible rfl)) | refine skR 16 rfl (fun _ => hS) (by rfl) ?_); simp only [zq1, zq2, zq3, Act.put, zq4, zq5, zq6]
  (first | (refine tkR 17 (v := ?_) rfl hS ⟨by rfl, ?_⟩ ?_; rotate_left; intro w h; (try dsimp only at h); first | (go_simp; done) | (go_simp; with_reducible rfl)) | refine skR 17 rfl (fun _ => hS) (by rfl) ?_); simp only [zq1, zq2, zq3, Act.put, zq4, zq5, zq6]
  (first | (refine tkR 18 (v := ?_) rfl hS ⟨by rfl, ?_⟩ ?_; rotate_left; intro w h; (try dsimp only at h); first | (go_simp; done) | (go_simp; with_reducible rfl)) | refine skR 18 rfl (fun _ => hS) (by rfl) ?_); simp only [zq1, zq2, zq3, Act.put, zq4, zq5, zq6]
  (first | (refine tkR 19 (v := ?_) rfl hS ⟨by rfl, ?_⟩ ?_; rotate_left; intro w h; (try dsimp only at h); first | (go_simp; done) | (go_simp; with_reducible rfl)) | refine skR 19 rfl (fun _ => hS) (by rfl) ?_); simp only [zq1, zq2, zq3, Act.put, zq4, zq5, zq6]
  (first | (refine tkR 20 (v := ?_) rfl hS ⟨by rfl, ?_⟩ ?_; rotate_left; intro w h; (try dsimp only at h); first | (go_simp; done) | (go_simp; with_reducible rfl)) | refine skR 20 rfl (fun _ => hS) (by rfl) ?_); simp only [zq1, zq2, zq3, Act.put, zq4, zq5, zq6]
  (first | (refine tkR 21 (v := ?_) rfl hS ⟨by rfl, ?_⟩ ?_; rotate_left; intro w h; (try dsimp only at h); first | (go_simp; done) | (go_simp; with_reducible rfl)) | refine skR 21 rfl (fun _ => hS) (by rfl) ?_); simp only [zq1, zq2, zq3, Act.put, zq4, zq5, zq6]
  (first | (refine tkR 22 (v := ?_) rfl hS ⟨by rfl, ?_⟩ ?_; rotate_left; intro w h; (try dsimp only at h); first | (go_simp; done) | (go_simp; with_reducible rfl)) | refine skR 22 rfl (fun _ => hS) (by rfl) ?_); simp only [zq1, zq2, zq3, Act.put, zq4, zq5, zq6]
  (first | (refine tkR 23 (v := ?_) rfl hS ⟨by rfl, ?_⟩ ?_; rotate_left; intro w h; (try dsimp only at h); first | (go_simp; done) | (go_simp; with_reducible rfl)) | refine skR 23 rfl (fun _ => hS) (by rfl) ?_); simp only [zq1, zq2, zq3, Act.put, zq4, zq5, zq6]
  (first | (refine tkR 24 (v := ?_) rfl hS ⟨by rfl, ?_⟩ ?_; rotate_left; intro w h; (try dsimp only at h); first | (go_simp; done) | (go_simp; with_reducible rfl)) | refine skR 24 rfl (fun _ => hS) (by rfl) ?_); simp only [zq1, zq2, zq3, Act.put, zq4, zq5, zq6]
  (first | (refine tkR 25 (v := ?_) rfl hS ⟨by rfl, ?_⟩ ?_; rotate_left; intro w h; (try dsimp only at h); first | (go_simp; done) | (go_simp; with_reducible rfl)) | refine skR 25 rfl (fun _ => hS) (by rfl) ?_); simp only [zq1, zq2, zq3, Act.put, zq4, zq5, zq6]
  (first | (refine tkR 26 (v := ?_) rfl hS ⟨by rfl, ?_⟩ ?_; rotate_left; intro w h; (try dsimp only at h); first | (go_simp; done) | (go_simp; with_reducible rfl)) | refine skR 26 rfl (fun _ => hS) (by rfl) ?_); simp only [zq1, zq2, zq3, Act.put, zq4, zq5, zq6]
  (first | (refine tkR 27 (v := ?_) rfl hS ⟨by rfl, ?_⟩ ?_; rotate_left; intro w h; (try dsimp only at h); first | (go_simp; done) | (go_simp; with_reducible rfl)) | refine skR 27 rfl (fun _ => hS) (by rfl) ?_); simp only [zq1, zq2, zq3, Act.put, zq4, zq5, zq6]
  (first | (refine tkR 28 (v := ?_) rfl hS ⟨by rfl, ?_⟩ ?_; rotate_left; intro w h; (try dsimp only at h); first | (go_simp; done) | (go_simp; with_reducible rfl)) | refine skR 28 rfl (fun _ => hS) (by rfl) ?_); simp only [zq1, zq2, zq3, Act.put, zq4, zq5, zq6]
  (first | (refine tkR 29 (v := ?_) rfl hS ⟨by rfl, ?_⟩ ?_; rotate_left; intro w h; (try dsimp only at h); first | (go_simp; done) | (go_simp; with_reducible rfl)) | refine skR 29 rfl (fun _ => hS) (by rfl) ?_); simp only [zq1, zq2, zq3, Act.put, zq4, zq5, zq6]
  (first | (refine tkR 30 (v := ?_) rfl hS ⟨by rfl, ?_⟩ ?_; rotate_left; intro w h; (try dsimp only at h); first | (go_simp; done) | (go_simp; with_reducible rfl)) | refine skR 30 rfl (fun _ => hS) (by rfl) ?_); simp only [zq1, zq2, zq3, Act.put, zq4, zq5, zq6]
  (first | (refine tkR 31 (v := ?_) rfl hS ⟨by rfl, ?_⟩ ?_; rotate_left; intro w h; (try dsimp only at h); first | (go_simp; done) | (go_simp; with_reducible rfl)) | refine skR 31 rfl (fun _ => hS) (by rfl) ?_); simp only [zq1, zq2, zq3, Act.put, zq4, zq5, zq6]
  (first | (refine tkR 32 (v := ?_) rfl hS ⟨by rfl, ?_⟩ ?_; rotate_left; intro w h; (try dsimp only at h); first | (go_simp; done) | (go_simp; with_reducible rfl)) | refine skR 32 rfl (fun _ => hS) (by rfl) ?_); simp only [zq1, zq2, zq3, Act.put, zq4, zq5, zq6]
  (first | (refine tkR 33 (v := ?_) rfl hS ⟨by rfl, ?_⟩ ?_; rotate_left; intro w h; (try dsimp only at h); first | (go_simp; done) | (go_simp; with_reducible rfl)) | refine skR 33 rfl (fun _ => hS) (by rfl) ?_); simp only [zq1, zq2, zq3, Act.put, zq4, zq5, zq6]
  (first | (refine tkR 34 (v := ?_) rfl hS ⟨by rfl, ?_⟩ ?_; rotate_left; intro w h; (try dsimp only at h); first | (go_simp; done) | (go_simp; with_reducible rfl)) | refine skR 34 rfl (fun _ => hS) (by rfl) ?_); simp only [zq1, zq2, zq3, Act.put, zq4, zq5, zq6]
  (first | (refine tkR 35 (v := ?_) rfl hS ⟨by rfl, ?_⟩ ?_; rotate_left; intro w h; (try dsimp only at h); first | (go_simp; done) | (go_simp; with_reducible rfl)) | refine skR 35 rfl (fun _ => hS) (by rfl) ?_); simp only [zq1, zq2, zq3, Act.put, zq4, zq5, zq6]
  refine wpAnyR_one 36 rfl (by kernel_rfl) (fun K hK => ?_)
  go_simp
  refine hK.out _ _ (fun h => absurd h (by decide)) ?_
  clear hK K
  refine wpAnyR_done (by kernel_rfl) ?_ _
  have u0 := HR4.out.cell 0
  have u1 := HR4.out.cell 1
  have u2 := HR4.out.cell 2
  have u3 := HR4.out.cell 3
  have u4 := HR4.out.cell 4
  have u5 := HR4.out.cell 5
  have u6 := HR4.out.cell 6
  go_wp2_with fail
  exact bodyPost_ret (v := .agg #[.int .i64 (n0 : Int), .int .i64 (n1 : Int), .int .i64 (n2 : Int), .int .i64 (n3 : Int), .int .i64 (n4 : Int), .int .i64 (n5 : Int), .int .i64 (n6 : Int)]) (by simp [results, Tryz.results9, go_sem, u0, u1, u2, u3, u4, u5, u6]) rfl ⟨rfl, HK4.out⟩
end Go.Proofs.YtlnkdnmeikpckaaGreat
namespace Go.Proofs.YtlnkdnmeikpckaaGreat.T20
open Go.RowKit
set_option maxRecDepth 100000
set_option maxHeartbeats 800000 in
theorem cloneV_some (b o n c : Nat) (v : Nat → V3) (w : World) (hn : n ≤ 16384) (hA : Sl w (some ⟨b, o, none⟩) (n * 3) (vcell v)) :
    Calls Tryz.prog 73 #[.slice (some ⟨b, o, none⟩) n c] w fun e w' => ∃ g cap, e = .returned (.slice (some ⟨g, 0, none⟩) n cap) ∧ Own w' w.heap.size 65 3 AnyV (.slice (some ⟨g, 0, none⟩) n cap) n (vcell v) ∧ Kept S0 w w' := by
  have q := fun (w : World) (a : Option Addr) (n c n' c' : Nat) => Lib.run_eql_slice_nil (P := Tryz.prog) w 70 65 a n c n' c' Tryz.underlying70
  have hown : Own (w.alloc (.cells #[] 65)) w.heap.size 65 3 AnyV (.slice (some ⟨w.heap.size, 0, none⟩) 0 0) 0 (vcell v) :=
    .inr ⟨w.heap.size, 0, fun _ => undef, rfl, Nat.le_refl _, Nat.le_refl _, Nat.zero_le _, ⟨#[], heap_alloc_new w _, rfl, fun i hi => absurd hi (by omega)⟩, fun i hi => absurd hi (by omega), fun i hi => absurd hi (by omega)⟩
  have hsl : Sl (w.alloc (.cells #[] 65)) (some ⟨b, o, none⟩) (n * 3) (vcell v) := (hA.slb.kept ((Kept.refl S0 w).alloc _) (Nat.le_refl _) (fun _ h => h.elim)).sl
  go_enter Tryz.func73, Tryz.ntmps73
  go_wp2_with (at_builtin; refine wpList_append_all rfl (.tmp 5) (.tmp 6) 70 rfl w.heap.size 65 (.agg #[.int .u8 0, .int .u64 0, .int .u64 0]) 3 24 Tryz.underlying70 Tryz.infoV rfl (by decide) AnyV (fun _ _ => trivial) _ 0 (vcell v) rfl hown (some ⟨b, o, none⟩) n c (vcell v) rfl hsl (fun h => by cases h) (fun _ _ => trivial) (fun _ _ => vcell_one _ _) (by unfold maxLen; omega) (by omega) (by simp) ?_)
  intro v' w' ha
  have H1 := Lib.hid ha
  obtain ⟨A', c', rfl, _⟩ := ha.own.out
  have hk : Kept S0 w w' := ((Kept.refl S0 w).alloc (.cells #[] 65)).grown ha.grown (fun k hk => by cases hk; exact .inr (Nat.le_refl _))
  have HK := Lib.hid hk
  clear hk ha
  go_wp2
  go_ret
  obtain ⟨g, rfl⟩ : ∃ g, A' = some ⟨g, 0, none⟩ := by
    rcases H1.out.own with ⟨e, hz⟩ | ⟨g, cap, fr, e, _⟩
    · exact absurd (H1.out.nil (by rw [e])) (by rintro ⟨h, _⟩; cases h)
    · cases e; exact ⟨g, rfl⟩
  refine ⟨g, c', by simp, ?_, HK.out⟩
  exact H1.out.own.congr (fun i hi => by simp [after])
theorem cloneV_nil (w : World) : Calls Tryz.prog 73 #[.slice none 0 0] w fun e w' => e = .returned (.slice none 0 0) ∧ w = w' := by
  have q := fun (w : World) (a : Option Addr) (n c n' c' : Nat) => Lib.run_eql_slice_nil (P := Tryz.prog) w 70 65 a n c n' c' Tryz.underlying70
  go_enter Tryz.func73, Tryz.ntmps73
  go_wp2
  go_ret
  exact ⟨rfl, rfl⟩
section
variable {w : World} {tb base N : Nat} {el mn mx : Int} {bd : Bool} {lv : Value} {f : Nat → V3}
set_option maxHeartbeats 800000 in
theorem all_made (hm : TabAt w tb base N el mn mx bd lv f) (hN : N ≤ 16384) :
    Calls Tryz.prog 54 #[.pointer (some ⟨tb, 0, none⟩)] w fun e w' => ∃ v, e = .returned v ∧ Own w' w.heap.size 65 3 AnyV v N (vcell f) ∧ Kept S0 w w' := by
  have c0 := hm.c0
  have c5 := hm.c5
  rcases hm.own with ⟨rfl, rfl⟩ | ⟨g, cap, fr, rfl, hbg, hNc, hcm, hrow, hF, hQ⟩
  · clear hm
    go_enter Tryz.func54, Tryz.ntmps54
    go_wp2_with fail
    refine (off_made _ _ c0).mono ?_
    rintro e w1 ⟨rfl, rfl⟩
    go_wp2_with fail
    refine (cloneV_nil _).mono ?_
    rintro e w2 ⟨rfl, rfl⟩
    go_wp2_with fail
    go_ret
    exact ⟨_, rfl, Own.nil _ _ _ _ _ _, Kept.refl _ _⟩
  · have hsl : Sl w (some ⟨g, 0, none⟩) (N * 3) (vcell f) := (Sl.of_row hrow (Nat.mul_le_mul_right _ hNc)).congr hF
    have HS := Lib.hid hsl
    clear hm hrow hF hQ hsl
    go_enter Tryz.func54, Tryz.ntmps54
    go_wp2_with fail
    refine (off_made _ _ c0).mono ?_
    rintro e w1 ⟨rfl, rfl⟩
    go_wp2_with fail
    refine (cloneV_some g 0 N cap f _ hN HS.out).mono ?_
    rintro e w2 ⟨g2, cap2, rfl, ho, hk⟩
    go_wp2_with fail
    go_ret
    exact ⟨_, rfl, ho, hk⟩
end
end Go.Proofs.YtlnkdnmeikpckaaGreat.T20
