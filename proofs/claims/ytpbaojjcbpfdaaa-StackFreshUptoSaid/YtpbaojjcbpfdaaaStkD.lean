/- The contract of Open. No condition. -/
import Derived.Test.YtpbaojjcbpfdaaaStkC
import Derived.Test.YtpbaojjcbpfdaaaHeld
namespace Go.Proofs.Ytpbaojjcbpfdaaa
open Go.RowKit

/-- A list that came: nil, or cells outside S's blocks. -/
structure Came (S : Nat → Prop) (w : World) (A : Option Addr) (n c : Nat) (v : Nat → UInt8) : Prop where
  sl : 0 < n → ∃ b o, A = some ⟨b, o, none⟩ ∧ ¬ S b ∧ ∀ i, i < n → w.cell? ⟨b, o + i, none⟩ = some (byteV v i)
  none : A = none → n = 0 ∧ c = 0
  le : n ≤ 140737488351232

section
variable {S : Nat → Prop} {w w' : World} {A : Option Addr} {n c : Nat} {v : Nat → UInt8}
theorem Came.at (h : Came S w A n c v) : Sl w A n (byteV v) := fun hn => let ⟨b, o, e, _, r⟩ := h.sl hn; ⟨b, o, e, r⟩
theorem Came.kept (h : Came S w A n c v) (hk : Kept S w w') : Came S w' A n c v := ⟨fun hn => by
  obtain ⟨b, o, e, hb, r⟩ := h.sl hn
  exact ⟨b, o, e, hb, fun i hi => (hk.cell (p := ⟨b, o + i, Option.none⟩) (World.block_lt_of_cell? _ _ (r i hi)) hb).trans (r i hi)⟩, h.none, h.le⟩
theorem Came.mono {T : Nat → Prop} (h : Came S w A n c v) (hs : ∀ i, T i → S i) : Came T w A n c v := ⟨fun hn => by
  obtain ⟨b, o, e, hb, r⟩ := h.sl hn
  exact ⟨b, o, e, fun x => hb (hs _ x), r⟩, h.none, h.le⟩
theorem Came.clone (h : Came S w A n c v) : Calls Try.prog 27 #[.slice A n c] w fun e w' => ∃ x, e = .returned x ∧ Own w' w.heap.size 30 1 IsByte x n (byteV v) ∧ Kept S0 w w' := clone_any A n c v w h.le h.at h.none
end

theorem own_types {w : World} {b1 b2 e1 e2 s1 s2 n1 n2 : Nat} {Q1 Q2 : Value → Prop} {x y : Value} {F1 F2 : Nat → Value} (h : Own w b1 e1 s1 Q1 x n1 F1) (k : Own w b2 e2 s2 Q2 y n2 F2) (hne : e1 ≠ e2) : ∀ g, x.ownBlock = some g → y.ownBlock ≠ some g := by
  intro g hx hy
  rcases h with ⟨rfl, _⟩ | ⟨g1, c1, f1, rfl, _, _, _, r1, _⟩
  · simp [Value.ownBlock] at hx
  rcases k with ⟨rfl, _⟩ | ⟨g2, c2, f2, rfl, _, _, _, r2, _⟩
  · simp [Value.ownBlock] at hy
  obtain rfl : g1 = g := by simpa [Value.ownBlock] using hx
  obtain rfl : g2 = g1 := by simpa [Value.ownBlock] using hy
  obtain ⟨cs1, p1, _, _⟩ := r1
  obtain ⟨cs2, p2, _, _⟩ := r2
  rw [p1] at p2
  injection p2 with p2
  injection p2 with _ p2
  exact hne p2

theorem Try.infoFr : (Try.prog.info? 39).map (fun i => (i.zero, i.size, i.bytes)) = some (some (.agg #[.int .u16 0, .slice none 0 0, .slice none 0 0, .int .i64 0, .bool false]), 5, 72) := by kernel_rfl

/-- A frame's cells. -/
def frC (op : Int) (x y : Value) (h : Nat) (dead : Bool) : Nat → Value := fun i => if i = 0 then .int .u16 op else if i = 1 then x else if i = 2 then y else if i = 3 then .int .i64 (h : Int) else .bool dead

theorem frC_one (op : Int) (A B : Option Addr) (n c m d h : Nat) (dead : Bool) (i : Nat) : (frC op (.slice A n c) (.slice B m d) h dead i).oneCell' = true := by
  unfold frC; repeat (first | rfl | split)

/-- Two values that own no block in common. -/
def Apart (x l : Value) : Prop := ∀ g, x.ownBlock = some g → l.ownBlock ≠ some g

set_option maxHeartbeats 3200000 in
theorem open_any (op : Int) (m c k d j : Nat) (A B : Option Addr) (u t v : Nat → UInt8) (sb base n : Nat) (lv lf : Value) (F : Nat → Value) (w : World) (hm : StkAt w sb base n v lv j F lf) (hA : Came (SK sb lv lf) w A m c u) (hB : Came S0 w B k d t) (hn : n + m ≤ 140737488351232) (hj : j ≤ 1000000000) (hb : base ≤ w.heap.size) :
    Calls Try.prog 12 #[.pointer (some ⟨sb, 0, none⟩), .int .u16 op, .slice A m c, .slice B k d] w fun e w' => e = .returned (.int .i64 0) ∧ ∃ lj lk x y, StkAt w' sb base (n + m) (afterB n v u) lj (j + 1) (after (j * 5) F (frC op x y n false)) lk ∧ Kept (SK sb lv lf) w w' ∧
      Own w' w.heap.size 30 1 IsByte x m (byteV u) ∧ Own w' w.heap.size 30 1 IsByte y k (byteV t) ∧ Apart x lj ∧ Apart y lj ∧ (lj.ownBlock = lv.ownBlock ∨ ∃ g, lj.ownBlock = some g ∧ w.heap.size ≤ g) ∧ (lk.ownBlock = lf.ownBlock ∨ ∃ g, lk.ownBlock = some g ∧ w.heap.size ≤ g) := by
  obtain ⟨Av, cv, hlv, _, _, _⟩ := hm.vals.out
  obtain ⟨Af, cf, hlf, _, _, _⟩ := hm.frs.out
  subst hlv hlf
  have d0 := hm.c0
  have hK := (Kept.refl S0 w).drew
  have HM := Lib.hid hm
  have hob := hK.blk hm.obj (fun x => x)
  have CA := Lib.hid (show ∀ w', Kept S0 w w' → Calls Try.prog 27 #[.slice A m c] w' fun e w'' => ∃ x, e = .returned x ∧ Own w'' w'.heap.size 30 1 IsByte x m (byteV u) ∧ Kept S0 w' w'' from fun w' h => ((hA.mono (T := S0) (fun _ x => x.elim)).kept h).clone)
  have CB := Lib.hid (show ∀ w', Kept S0 w w' → Calls Try.prog 27 #[.slice B k d] w' fun e w'' => ∃ x, e = .returned x ∧ Own w'' w'.heap.size 30 1 IsByte x k (byteV t) ∧ Kept S0 w' w'' from fun w' h => (hB.kept h).clone)
  clear hm
  go_enter Try.func12, Try.ntmps12
  go_wp2_with fail
  refine (off_made _ _ d0).mono ?_
  rintro e w1 ⟨rfl, rfl⟩
  go_wp2_with fail
  have q2 : w.drew.cell? ⟨sb, 2, none⟩ = some (.slice Af j cf) := hob.cell 2
  have q1 : w.drew.cell? ⟨sb, 1, none⟩ = some (.slice Av n cv) := hob.cell 1
  refine wp_region_T (fun w' => w'.cell? ⟨sb, 1, none⟩ = some (.slice Av n cv) ∧ w'.cell? ⟨sb, 2, none⟩ = some (.slice Af j cf)) 20 (by kernel_rfl) ?_
  have hS : w.drew.cell? ⟨sb, 1, none⟩ = some (.slice Av n cv) ∧ w.drew.cell? ⟨sb, 2, none⟩ = some (.slice Af j cf) := ⟨q1, q2⟩
  refine wpAnyT_take 0 (v := ?_) rfl (by kernel_rfl) (by kernel_rfl) (by kernel_rfl) (by kernel_rfl) (fun _ _ _ h => h) hS ⟨by rfl, ?_⟩ ?_
  rotate_left; (intro w hSw; (try dsimp only at hSw); first | (go_simp; done) | (go_simp; with_reducible rfl))
  simp only [List.getElem_toArray, List.getElem_cons_zero, Act.put, List.setIfInBounds_toArray, List.set_cons_zero, List.set_cons_succ]
  refine wpAnyT_take 1 (v := ?_) rfl (by kernel_rfl) (by kernel_rfl) (by kernel_rfl) (by kernel_rfl) (fun _ _ _ h => h) hS ⟨by rfl, ?_⟩ ?_
  rotate_left; (intro w hSw; (try dsimp only at hSw); first | (go_simp; done) | (go_simp; with_reducible rfl))
  simp only [List.getElem_toArray, List.getElem_cons_zero, List.getElem_cons_succ, Act.put, List.setIfInBounds_toArray, List.set_cons_zero, List.set_cons_succ]
  refine wpAnyT_take 2 (v := ?_) rfl (by kernel_rfl) (by kernel_rfl) (by kernel_rfl) (by kernel_rfl) (fun _ _ _ h => h) hS ⟨by rfl, ?_⟩ ?_
  rotate_left; (intro w hSw; (try dsimp only at hSw); first | (go_simp; done) | (go_simp; with_reducible rfl))
  simp only [List.getElem_toArray, List.getElem_cons_zero, List.getElem_cons_succ, Act.put, List.setIfInBounds_toArray, List.set_cons_zero, List.set_cons_succ]
  refine wpAnyT_take 3 (v := ?_) rfl (by kernel_rfl) (by kernel_rfl) (by kernel_rfl) (by kernel_rfl) (fun _ _ _ h => h) hS ⟨by rfl, ?_⟩ ?_
  rotate_left; (intro w hSw; (try dsimp only at hSw); first | (go_simp; done) | (go_simp; with_reducible rfl))
  simp only [List.getElem_toArray, List.getElem_cons_zero, List.getElem_cons_succ, Act.put, List.setIfInBounds_toArray, List.set_cons_zero, List.set_cons_succ]
  refine wpAnyT_take 4 (v := ?_) rfl (by kernel_rfl) (by kernel_rfl) (by kernel_rfl) (by kernel_rfl) (fun _ _ _ h => h) hS ⟨by rfl, ?_⟩ ?_
  rotate_left; (intro w hSw; (try dsimp only at hSw); first | (go_simp; done) | (go_simp; with_reducible rfl))
  simp only [List.getElem_toArray, List.getElem_cons_zero, List.getElem_cons_succ, Act.put, List.setIfInBounds_toArray, List.set_cons_zero, List.set_cons_succ]
  refine wpAnyT_take 5 (v := ?_) rfl (by kernel_rfl) (by kernel_rfl) (by kernel_rfl) (by kernel_rfl) (fun _ _ _ h => h) hS ⟨by rfl, ?_⟩ ?_
  rotate_left; (intro w hSw; (try dsimp only at hSw); first | (go_simp; done) | (go_simp; with_reducible rfl))
  simp only [List.getElem_toArray, List.getElem_cons_zero, List.getElem_cons_succ, Act.put, List.setIfInBounds_toArray, List.set_cons_zero, List.set_cons_succ]
  refine wpAnyT_take 6 (v := ?_) rfl (by kernel_rfl) (by kernel_rfl) (by kernel_rfl) (by kernel_rfl) (fun _ _ _ h => h) hS ⟨by rfl, ?_⟩ ?_
  rotate_left; (intro w hSw; (try dsimp only at hSw); first | (go_simp; done) | (go_simp; with_reducible rfl))
  simp only [List.getElem_toArray, List.getElem_cons_zero, List.getElem_cons_succ, Act.put, List.setIfInBounds_toArray, List.set_cons_zero, List.set_cons_succ]
  refine wpAnyT_take 8 (v := ?_) rfl (by kernel_rfl) (by kernel_rfl) (by kernel_rfl) (by kernel_rfl) (fun _ _ _ h => h) hS ⟨by rfl, ?_⟩ ?_
  rotate_left; (intro w hSw; (try dsimp only at hSw); first | (go_simp; done) | (go_simp; with_reducible rfl))
  simp only [List.getElem_toArray, List.getElem_cons_zero, List.getElem_cons_succ, Act.put, List.setIfInBounds_toArray, List.set_cons_zero, List.set_cons_succ]
  refine wpAnyT_take 10 (v := ?_) rfl (by kernel_rfl) (by kernel_rfl) (by kernel_rfl) (by kernel_rfl) (fun _ _ _ h => h) hS ⟨by rfl, ?_⟩ ?_
  rotate_left; (intro w hSw; (try dsimp only at hSw); first | (go_simp; done) | (go_simp; with_reducible rfl))
  simp only [List.getElem_toArray, List.getElem_cons_zero, List.getElem_cons_succ, Act.put, List.setIfInBounds_toArray, List.set_cons_zero, List.set_cons_succ]
  refine wpAnyT_take 11 (v := ?_) rfl (by kernel_rfl) (by kernel_rfl) (by kernel_rfl) (by kernel_rfl) (fun _ _ _ h => h) hS ⟨by rfl, ?_⟩ ?_
  rotate_left; (intro w hSw; (try dsimp only at hSw); first | (go_simp; done) | (go_simp; with_reducible rfl))
  simp only [List.getElem_toArray, List.getElem_cons_zero, List.getElem_cons_succ, Act.put, List.setIfInBounds_toArray, List.set_cons_zero, List.set_cons_succ]
  refine wpAnyT_take 12 (v := ?_) rfl (by kernel_rfl) (by kernel_rfl) (by kernel_rfl) (by kernel_rfl) (fun _ _ _ h => h) hS ⟨by rfl, ?_⟩ ?_
  rotate_left; (intro w hSw; (try dsimp only at hSw); first | (go_simp; done) | (go_simp; with_reducible rfl))
  simp only [List.getElem_toArray, List.getElem_cons_zero, List.getElem_cons_succ, Act.put, List.setIfInBounds_toArray, List.set_cons_zero, List.set_cons_succ]
  refine wpAnyT_take 13 (v := ?_) rfl (by kernel_rfl) (by kernel_rfl) (by kernel_rfl) (by kernel_rfl) (fun _ _ _ h => h) hS ⟨by rfl, ?_⟩ ?_
  rotate_left; (intro w hSw; (try dsimp only at hSw); first | (go_simp; done) | (go_simp; with_reducible rfl))
  simp only [List.getElem_toArray, List.getElem_cons_zero, List.getElem_cons_succ, Act.put, List.setIfInBounds_toArray, List.set_cons_zero, List.set_cons_succ]
  refine wpAnyT_take 14 (v := ?_) rfl (by kernel_rfl) (by kernel_rfl) (by kernel_rfl) (by kernel_rfl) (fun _ _ _ h => h) hS ⟨by rfl, ?_⟩ ?_
  rotate_left; (intro w hSw; (try dsimp only at hSw); first | (go_simp; done) | (go_simp; with_reducible rfl))
  simp only [List.getElem_toArray, List.getElem_cons_zero, List.getElem_cons_succ, Act.put, List.setIfInBounds_toArray, List.set_cons_zero, List.set_cons_succ]
  refine wpAnyT_one 7 rfl (by kernel_rfl) (fun K hK7 => ?_)
  go_simp
  go_at_call 27
  refine (CA.out _ hK).mono ?_
  rintro e w2 ⟨x1, rfl, ho1, hk2⟩
  have hob2 := hk2.blk hob (fun x => x)
  have hK2 := hK.then0 hk2
  obtain ⟨A1, c1, rfl, _, _, _⟩ := ho1.out
  have hS2 : w2.cell? ⟨sb, 1, none⟩ = some (.slice Av n cv) ∧ w2.cell? ⟨sb, 2, none⟩ = some (.slice Af j cf) := ⟨hob2.cell 1, hob2.cell 2⟩
  refine hK7.out _ _ (fun _ => hS2) ?_
  clear hK7 K
  refine wpAnyT_one 9 rfl (by kernel_rfl) (fun K hK9 => ?_)
  go_simp
  go_at_call 27
  refine (CB.out _ hK2).mono ?_
  rintro e w3 ⟨x2, rfl, ho2, hk3⟩
  have hob3 := hk3.blk hob2 (fun x => x)
  have hK3 := hK2.then0 hk3
  obtain ⟨A2, c2, rfl, _, _, _⟩ := ho2.out
  have hS3 : w3.cell? ⟨sb, 1, none⟩ = some (.slice Av n cv) ∧ w3.cell? ⟨sb, 2, none⟩ = some (.slice Af j cf) := ⟨hob3.cell 1, hob3.cell 2⟩
  refine hK9.out _ _ (fun _ => hS3) ?_
  clear hK9 K
  refine wpAnyT_take 15 (v := ?_) rfl (by kernel_rfl) (by kernel_rfl) (by kernel_rfl) (by kernel_rfl) (fun _ _ _ h => h) hS3 ⟨by rfl, ?_⟩ ?_
  rotate_left; (intro w hSw; (try dsimp only at hSw); first | (go_simp; done) | (go_simp; with_reducible rfl))
  simp only [List.getElem_toArray, List.getElem_cons_zero, List.getElem_cons_succ, Act.put, List.setIfInBounds_toArray, List.set_cons_zero, List.set_cons_succ]
  refine wpAnyT_one 16 rfl (by kernel_rfl) (fun K hK16 => ?_)
  go_simp
  refine hK16.out _ _ (fun _ => ⟨(hob3.alloc _).cell 1, (hob3.alloc _).cell 2⟩) ?_
  clear hK16 K
  refine wpAnyT_one 17 rfl (by kernel_rfl) (fun K hK17 => ?_)
  refine step_append_all rfl (.tmp 15) (.tmp 27) 43 rfl base 39 (.agg #[.int .u16 0, .slice none 0 0, .slice none 0 0, .int .i64 0, .bool false]) 5 72 Try.underlying43 Try.infoFr rfl (by decide) AnyV (fun _ _ => trivial) _ j F rfl (HM.out.frs.kept (hK3.alloc _) (fun _ _ h => h)) _ 1 1 (frC op (.slice A1 m c1) (.slice A2 k c2) n false) rfl (fun _ => ⟨_, 0, rfl, fun i hi => (by match i, hi with | 0, _ => exact (Blk.new _ _ _).cell 0 | 1, _ => exact (Blk.new _ _ _).cell 1 | 2, _ => exact (Blk.new _ _ _).cell 2 | 3, _ => exact (Blk.new _ _ _).cell 3 | 4, _ => exact (Blk.new _ _ _).cell 4)⟩) (fun h => by cases h) (fun _ _ => trivial) (fun _ _ => frC_one _ _ _ _ _ _ _ _ _ _) (by unfold maxLen; omega) (by omega) (Nat.le_trans hb (hK3.alloc _).size) ?_
  intro v' w' ha
  replace ha : Appended _ w' base 39 5 AnyV (.slice Af j cf) v' (j + 1) (after (j * 5) F (frC op (.slice A1 m c1) (.slice A2 k c2) n false)) 1 := ha
  obtain ⟨A', c', rfl, _, _, _⟩ := ha.own.out
  have hob4 : Blk w' sb 58 _ := (ha.grown.block sb (hob3.alloc _).lt (fun e => HM.out.ne_f e.symm)).trans (hob3.alloc _)
  have hS4 : w'.cell? ⟨sb, 1, none⟩ = some (.slice Av n cv) ∧ w'.cell? ⟨sb, 2, none⟩ = some (.slice Af j cf) := ⟨hob4.cell 1, hob4.cell 2⟩
  have y2 := hob4.frozen 2
  have x2 := hob4.cell 2
  refine hK17.out _ _ (fun _ => hS4) ?_
  clear hK17 K
  refine wpAnyT_take 18 (v := ?_) rfl (by kernel_rfl) (by kernel_rfl) (by kernel_rfl) (by kernel_rfl) (fun _ _ _ h => h) hS4 ⟨by rfl, ?_⟩ ?_
  rotate_left; (intro w hSw; (try dsimp only at hSw); first | (go_simp; done) | (go_simp; with_reducible rfl))
  simp only [List.getElem_toArray, List.getElem_cons_zero, List.getElem_cons_succ, Act.put, List.setIfInBounds_toArray, List.set_cons_zero, List.set_cons_succ]
  refine wpAnyT_take 19 (v := ?_) rfl (by kernel_rfl) (by kernel_rfl) (by kernel_rfl) (by kernel_rfl) (fun _ _ _ h => h) hS4 ⟨by rfl, ?_⟩ ?_
  rotate_left; (intro w hSw; (try dsimp only at hSw); first | (go_simp; done) | (go_simp; with_reducible rfl))
  simp only [List.getElem_toArray, List.getElem_cons_zero, List.getElem_cons_succ, Act.put, List.setIfInBounds_toArray, List.set_cons_zero, List.set_cons_succ]
  refine wpAnyT_one 20 rfl (by kernel_rfl) (fun K hK20 => ?_)
  go_simp
  refine hK20.out _ _ (fun h => absurd h (by decide)) ?_
  clear hK20 K
  refine wpAnyT_done (by kernel_rfl) ?_ _
  have hms := HM.out
  have hKA : Kept S0 w (w3.alloc (.cells #[.int .u16 op, .slice A1 m c1, .slice A2 k c2, .int .i64 (n : Int), .bool false] 39)) := hK3.alloc _
  have hkf : Kept (fun i => (Value.slice Af j cf).ownBlock = some i) w w' := (hKA.of0 _).grown ha.grown (fun g hg => .inl hg)
  have hk5 : Kept (S1 sb) w' (w'.setCell ⟨sb, 2, none⟩ (.slice A' (j + 1) c')) := (Kept.refl (S1 sb) w').setCell (p := ⟨sb, 2, none⟩) (.inl rfl) _
  have hob5 : Blk (w'.setCell ⟨sb, 2, none⟩ (.slice A' (j + 1) c')) sb 58 #[.bool true, .slice Av n cv, .slice A' (j + 1) c'] := hob4.set_ 2 _
  generalize w'.setCell ⟨sb, 2, none⟩ (.slice A' (j + 1) c') = w5 at *
  have hsb : sb < w.heap.size := hob.lt
  have hns : ∀ g, (Value.slice Av n cv).ownBlock = some g → ¬ S1 sb g := fun g hg e => hms.ne_v (by rw [hg]; exact congrArg some e)
  have hnk : (Value.slice A' (j + 1) c').ownBlock ≠ some sb := ha.own.ne_blk hob4 (by decide)
  have hnf : ∀ g, w.heap.size ≤ g → (Value.slice Af j cf).ownBlock ≠ some g := fun g hg e => by have := (hms.frs.lt g e).2; omega
  have hk6 : Kept (SK sb (.slice Av n cv) (.slice Af j cf)) w w5 := (hkf.mono (fun i hi => .inr (.inr hi))).trans (hk5.mono (fun i hi => .inl hi))
  have hm5 : StkAt w5 sb base n v (.slice Av n cv) (j + 1) (after (j * 5) F (frC op (.slice A1 m c1) (.slice A2 k c2) n false)) (.slice A' (j + 1) c') :=
    ⟨hob5, (hms.vals.kept hkf (own_types hms.vals hms.frs (by decide))).kept hk5 hns, ha.own.kept hk5 (fun g hg e => hnk (by rw [hg]; exact congrArg some e)), hms.lo⟩
  have hx5 : Own w5 w.heap.size 30 1 IsByte (.slice A1 m c1) m (byteV u) := by
    have h1 : Own (w3.alloc (.cells #[.int .u16 op, .slice A1 m c1, .slice A2 k c2, .int .i64 (n : Int), .bool false] 39)) w.heap.size 30 1 IsByte (.slice A1 m c1) m (byteV u) := (ho1.kept hk3 (fun _ _ x => x)).kept ((Kept.refl S0 w3).alloc _) (fun _ _ x => x)
    have h2 := h1.kept ((Kept.refl (fun i => (Value.slice Af j cf).ownBlock = some i) _).grown ha.grown (fun g hg => .inl hg)) (fun g hg => hnf g (h1.lt g hg).1)
    exact h2.kept hk5 (fun g hg e => by have := (h1.lt g hg).1; have e' : g = sb := e; omega)
  have hy5 : Own w5 w.heap.size 30 1 IsByte (.slice A2 k c2) k (byteV t) := by
    have h1 : Own (w3.alloc (.cells #[.int .u16 op, .slice A1 m c1, .slice A2 k c2, .int .i64 (n : Int), .bool false] 39)) w.heap.size 30 1 IsByte (.slice A2 k c2) k (byteV t) := (ho2.mono hK2.size).kept ((Kept.refl S0 w3).alloc _) (fun _ _ x => x)
    have h2 := h1.kept ((Kept.refl (fun i => (Value.slice Af j cf).ownBlock = some i) _).grown ha.grown (fun g hg => .inl hg)) (fun g hg => hnf g (h1.lt g hg).1)
    exact h2.kept hk5 (fun g hg e => by have := (h1.lt g hg).1; have e' : g = sb := e; omega)
  have hlk : (Value.slice A' (j + 1) c').ownBlock = (Value.slice Af j cf).ownBlock ∨ ∃ g, (Value.slice A' (j + 1) c').ownBlock = some g ∧ w.heap.size ≤ g := by
    rcases ha.block with h | h
    · exact .inl h
    · exact .inr ⟨_, h, hKA.size⟩
  have PU := Lib.hid (push_any sb base n (j + 1) m c v u (.slice Av n cv) (.slice A' (j + 1) c') _ A w5 hm5 (hA.kept hk6).at (fun e => (hA.none e).1) hn (Nat.le_trans hb hk6.size))
  have HX := Lib.hid hx5
  have HY := Lib.hid hy5
  have HK6 := Lib.hid hk6
  clear hx5 hy5 hm5 hk6 hk5 hkf hKA ha hob4 hob3 hob2 hS4 hS3 hS2 hS ho1 ho2 hk2 hk3 hK2 hK3 q1 q2 x2 y2 CA CB hms
  go_wp2_with fail
  refine PU.out.mono ?_
  rintro e w6 ⟨rfl, lj, hm6, hk7, hlj⟩
  go_wp2_with fail
  go_ret
  have hvl : ∀ g, w.heap.size ≤ g → (Value.slice Av n cv).ownBlock ≠ some g := fun g hg e => by have := (HM.out.vals.lt g e).2; omega
  have hns2 : ∀ g, w.heap.size ≤ g → ¬ SK sb (.slice Av n cv) (.slice none 0 0) g := fun g hg e => by
    rcases e with e | e | e
    · omega
    · exact hvl g hg e
    · simp [Value.ownBlock] at e
  have hx6 := HX.out.kept hk7 (fun g hg => hns2 g (HX.out.lt g hg).1)
  have hy6 := HY.out.kept hk7 (fun g hg => hns2 g (HY.out.lt g hg).1)
  have hap : ∀ x, (∀ g, x.ownBlock = some g → w.heap.size ≤ g ∧ g < w5.heap.size) → Apart x lj := fun x hx g hg e => by
    rcases hlj with h | h
    · rw [h] at e; exact hvl g (hx g hg).1 e
    · rw [h] at e; have := (hx g hg).2; cases e; omega
  refine ⟨rfl, lj, _, _, _, hm6, HK6.out.trans (hk7.mono (fun i hi => ?_)), hx6, hy6, hap _ HX.out.lt, hap _ HY.out.lt, ?_, hlk⟩
  · rcases hi with h | h | h
    · exact .inl h
    · exact .inr (.inl h)
    · simp [Value.ownBlock] at h
  · rcases hlj with h | h
    · exact .inl h
    · exact .inr ⟨_, h, HK6.out.size⟩
end Go.Proofs.Ytpbaojjcbpfdaaa
