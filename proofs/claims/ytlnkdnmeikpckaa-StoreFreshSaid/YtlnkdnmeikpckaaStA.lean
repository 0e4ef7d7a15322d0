/- Contracts of a store's smallest functions, of lists of types. No condition. -/
import Derived.Test.YtlnkdnmeikpckaaProg
import Derived.Test.YtlnkdnmeikpckaaBase4
import Derived.Lib.SliceRun
import Derived.StillTailTactics
import Derived.Test.YtlnkdnmeikpckaaHeldR
namespace Go.Proofs.Ytlnkdnmeikpckaa
open Go.RowKit

theorem Try.infoT : (Try.prog.info? 37).map (fun i => (i.zero, i.size, i.bytes)) = some (some (.int .u8 0), 1, 1) := by kernel_rfl

theorem keep0 {w w' : World} {p : Addr} {v : Value} (hk : Kept S0 w w') (h : w.cell? p = some v) : w'.cell? p = some v := (hk.cell (World.block_lt_of_cell? _ _ h) (fun x => x)).trans h

set_option maxHeartbeats 400000 in
theorem off_made (sb : Nat) (w : World) (h0 : w.cell? ⟨sb, 0, none⟩ = some (.bool true)) :
    Calls Try.prog 35 #[.pointer (some ⟨sb, 0, none⟩)] w fun e w' => e = .returned (.bool false) ∧ w = w' := by
  go_enter Try.func35, Try.ntmps35
  go_wp2
  go_ret
  exact ⟨rfl, rfl⟩

/-- No store: nil, or one that was not made. -/
structure NoStore (w : World) (p : Option Addr) : Prop where
  is : p = none ∨ ∃ pb, p = some ⟨pb, 0, none⟩ ∧ w.cell? ⟨pb, 0, none⟩ = some (.bool false)
theorem NoStore.kept {w w' : World} {p : Option Addr} (h : NoStore w p) (hk : Kept S0 w w') : NoStore w' p := ⟨h.is.imp id fun ⟨pb, e, hc⟩ => ⟨pb, e, keep0 hk hc⟩⟩
theorem NoStore.alloc {w : World} {p : Option Addr} (h : NoStore w p) (o : Obj) : NoStore (w.alloc o) p := h.kept ((Kept.refl S0 w).alloc o)

set_option maxHeartbeats 400000 in
theorem off_any (p : Option Addr) (w : World) (h : NoStore w p) : Calls Try.prog 35 #[.pointer p] w fun e w' => e = .returned (.bool true) ∧ w = w' := by
  rcases h.is with rfl | ⟨pb, rfl, h0⟩
  · go_enter Try.func35, Try.ntmps35
    go_wp2
    go_ret
    exact ⟨rfl, rfl⟩
  · go_enter Try.func35, Try.ntmps35
    go_wp2
    go_ret
    exact ⟨rfl, rfl⟩

/-- A store's cells. -/
def stCells (f t m g e d i : Value) : Array Value := #[.bool true, f, t, m, g, e, d, i]

set_option maxHeartbeats 400000 in
theorem news_any (w : World) : Calls Try.prog 6 #[] w fun e w' => e = .returned (.pointer (some ⟨w.heap.size, 0, none⟩)) ∧ Blk w' w.heap.size 95 (stCells (.slice none 0 0) (.slice none 0 0) (.slice none 0 0) (.slice none 0 0) (.slice none 0 0) (.slice none 0 0) (.slice none 0 0)) ∧ Kept S0 w w' ∧ w'.heap.size = w.heap.size + 1 := by
  go_enter Try.func6, Try.ntmps6
  go_wp2
  go_ret
  exact ⟨rfl, Blk.new w _ _, (Kept.refl S0 w).alloc _, by simp⟩

/-- Is it a value's type? -/
def isB (t : Int) : Bool := decide (t = 127 ∨ t = 126 ∨ t = 125 ∨ t = 124 ∨ t = 123 ∨ t = 112 ∨ t = 111)

set_option maxHeartbeats 800000 in
theorem is_any (t : Int) (w : World) : Calls Try.prog 79 #[.int .u8 t] w fun e w' => e = .returned (.bool (isB t)) ∧ w = w' := by
  by_cases h : t = 127 ∨ t = 126 ∨ t = 125 ∨ t = 124 ∨ t = 123 ∨ t = 112 ∨ t = 111
  · rcases h with rfl | rfl | rfl | rfl | rfl | rfl | rfl
    all_goals
      go_enter Try.func79, Try.ntmps79
      go_wp2
      go_ret
      exact ⟨rfl, rfl⟩
  · have HB := Lib.hid (show isB t = false by unfold isB; exact decide_eq_false h)
    have h1 : (t == 127) = false := beq_eq_false_iff_ne.2 (fun e => h (.inl e))
    have h2 : (t == 126) = false := beq_eq_false_iff_ne.2 (fun e => h (.inr (.inl e)))
    have h3 : (t == 125) = false := beq_eq_false_iff_ne.2 (fun e => h (.inr (.inr (.inl e))))
    have h4 : (t == 124) = false := beq_eq_false_iff_ne.2 (fun e => h (.inr (.inr (.inr (.inl e)))))
    have h5 : (t == 123) = false := beq_eq_false_iff_ne.2 (fun e => h (.inr (.inr (.inr (.inr (.inl e))))))
    have h6 : (t == 112) = false := beq_eq_false_iff_ne.2 (fun e => h (.inr (.inr (.inr (.inr (.inr (.inl e)))))))
    have h7 : (t == 111) = false := beq_eq_false_iff_ne.2 (fun e => h (.inr (.inr (.inr (.inr (.inr (.inr e)))))))
    clear h
    go_enter Try.func79, Try.ntmps79
    go_wp2
    go_ret
    exact ⟨ret_bool (by rw [HB.out]), rfl⟩

theorem vals1_any (t : Int) (w : World) : Calls Try.prog 78 #[.int .u8 t] w fun e w' => e = .returned (.bool (!isB t)) ∧ w = w' := by
  go_enter Try.func78, Try.ntmps78
  go_wp2_with fail
  refine (is_any t _).mono ?_
  rintro e w1 ⟨rfl, rfl⟩
  go_wp2_with fail
  go_ret
  exact ⟨rfl, rfl⟩

/-- Is there one among them that is no value's type? -/
def badT (v : Nat → UInt8) (n : Nat) : Bool := (List.range n).any fun i => !isB ((v i).toNat : Int)
theorem badT_true {v : Nat → UInt8} {n i : Nat} (hi : i < n) (h : isB ((v i).toNat : Int) = false) : badT v n = true := by
  unfold badT; rw [List.any_eq_true]; exact ⟨i, List.mem_range.2 hi, by rw [h]; rfl⟩
theorem badT_false {v : Nat → UInt8} {n : Nat} (h : ∀ i, i < n → isB ((v i).toNat : Int) = true) : badT v n = false := by
  unfold badT; rw [List.any_eq_false]; intro i hi; rw [h i (List.mem_range.1 hi)]; simp

set_option maxHeartbeats 1600000 in
theorem index_vals (A : Option Addr) (n c : Nat) (v : Nat → UInt8) (w : World) (hA : Sl w A n (byteV v)) (hn : n ≤ 9223372036854775806) :
    Calls Try.prog 92 #[.slice A n c, .func (.func 78) #[] #[]] w fun e w' => ∃ r : Int, e = .returned (.int .i64 r) ∧ decide (0 ≤ r) = badT v n ∧ w = w' := by
  have HA := Lib.hid hA
  clear hA
  go_enter Try.func92, Try.ntmps92
  go_wp2_with fail
  go_loopw [8] (fun i wr => ∃ k : Nat, k ≤ n ∧ i = .int .i64 (k : Int) ∧ (∀ j, j < k → isB ((v j).toNat : Int) = true) ∧ wr = w) (fun i _ => n - (intOf i).toNat)
  case atStart => exact ⟨0, by omega, rfl, fun j hj => absurd hj (by omega), rfl⟩
  case round =>
    obtain ⟨k, hk, rfl, hfit, rfl⟩ := hrel
    by_cases hlt : k < n
    · obtain ⟨b1, o1, hAe, hc⟩ := HA.out (by omega)
      subst hAe
      have d0 := hc k hlt
      unfold byteV at d0
      have HI := Lib.hid (vals1_any ((v k).toNat : Int) wr)
      have HF := Lib.hid hfit
      clear hc hfit
      go_wp2_with fail
      refine HI.out.mono ?_
      rintro e w1 ⟨rfl, rfl⟩
      cases hfk : isB ((v k).toNat : Int) with
      | true =>
        have HFK := Lib.hid hfk
        clear hfk
        go_wp2_with fail
        go_roundw
        case rel => exact ⟨k + 1, by omega, by go_num, fun j hj => by
          rcases Nat.lt_or_ge j k with h | h
          · exact HF.out j h
          · obtain rfl : j = k := by omega
            exact HFK.out, by trivial⟩
        case measure => simp [intOf]; omega
      | false =>
        have HFK := Lib.hid hfk
        clear hfk
        go_wp2_with fail
        go_ret
        exact ⟨k, rfl, by rw [badT_true hlt HFK.out]; exact decide_eq_true (by omega), rfl⟩
    · obtain rfl : k = n := by omega
      have HF := Lib.hid hfit
      clear hfit
      go_wp2_with fail
      go_ret
      exact ⟨-1, rfl, by rw [badT_false HF.out]; rfl, rfl⟩

theorem containst_any (A : Option Addr) (n c : Nat) (v : Nat → UInt8) (w : World) (hA : Sl w A n (byteV v)) (hn : n ≤ 9223372036854775806) :
    Calls Try.prog 77 #[.slice A n c, .func (.func 78) #[] #[]] w fun e w' => e = .returned (.bool (badT v n)) ∧ w = w' := by
  have HI := Lib.hid (index_vals A n c v w hA hn)
  clear hA
  go_enter Try.func77, Try.ntmps77
  go_wp2_with fail
  refine HI.out.mono ?_
  rintro e w1 ⟨r, rfl, hr, rfl⟩
  have HR := Lib.hid hr
  clear hr
  go_wp2_with fail
  go_ret
  exact ⟨ret_bool HR.out, rfl⟩

theorem vals_any (A : Option Addr) (n c : Nat) (v : Nat → UInt8) (w : World) (hA : Sl w A n (byteV v)) (hn : n ≤ 9223372036854775806) :
    Calls Try.prog 36 #[.slice A n c] w fun e w' => e = .returned (.bool (!badT v n)) ∧ w = w' := by
  have HC := Lib.hid (containst_any A n c v w hA hn)
  clear hA
  go_enter Try.func36, Try.ntmps36
  go_wp2_with fail
  refine HC.out.mono ?_
  rintro e w1 ⟨rfl, rfl⟩
  go_wp2_with fail
  go_ret
  exact ⟨rfl, rfl⟩

set_option maxHeartbeats 800000 in
theorem clonet_any (A : Option Addr) (n c : Nat) (v : Nat → UInt8) (w : World) (hA : Sl w A n (byteV v)) (hA0 : A = none → n = 0 ∧ c = 0) (hn : n ≤ 140737488351232) :
    Calls Try.prog 59 #[.slice A n c] w fun e w' => ∃ y, e = .returned y ∧ Own w' w.heap.size 37 1 IsByte y n (byteV v) ∧ Kept S0 w w' := by
  have q := fun (w : World) (a : Option Addr) (n c n' c' : Nat) => Lib.run_eql_slice_nil (P := Try.prog) w 22 37 a n c n' c' Try.underlying22
  cases A with
  | none =>
    obtain ⟨rfl, rfl⟩ := hA0 rfl
    clear hA hA0
    go_enter Try.func59, Try.ntmps59
    go_wp2
    go_ret
    exact ⟨_, rfl, Own.nil _ _ _ _ _ _, Kept.refl _ _⟩
  | some ad =>
    have hown : Own (w.alloc (.cells #[] 37)) w.heap.size 37 1 IsByte (.slice (some ⟨w.heap.size, 0, none⟩) 0 0) 0 (byteV v) :=
      .inr ⟨w.heap.size, 0, fun _ => undef, rfl, Nat.le_refl _, Nat.le_refl _, Nat.zero_le _, ⟨#[], heap_alloc_new w _, rfl, fun i hi => absurd hi (by omega)⟩, fun i hi => absurd hi (by omega), fun i hi => absurd hi (by omega)⟩
    have hsl : Sl (w.alloc (.cells #[] 37)) (some ad) (n * 1) (byteV v) := by
      rw [Nat.mul_one]
      exact (hA.slb.kept ((Kept.refl S0 w).alloc _) (Nat.le_refl _) (fun _ h => h.elim)).sl
    clear hA hA0
    go_enter Try.func59, Try.ntmps59
    go_wp2_with (at_builtin; refine wpList_append_all rfl (.tmp 5) (.tmp 6) 22 rfl w.heap.size 37 (.int .u8 0) 1 1 Try.underlying22 Try.infoT rfl (by decide) IsByte (fun u hu => by simp [Value.cells] at hu; exact hu ▸ ⟨0, rfl⟩) _ 0 (byteV v) rfl hown (some ad) n c (byteV v) rfl hsl (fun h => by cases h) (fun j _ => byteV_is v j) (fun _ _ => rfl) (by unfold maxLen; omega) (by omega) (by simp) ?_)
    intro v' w' ha
    have H1 := Lib.hid ha
    obtain ⟨A', c', rfl, _⟩ := ha.own.out
    have hk : Kept S0 w w' := ((Kept.refl S0 w).alloc (.cells #[] 37)).grown ha.grown (fun k hk => by cases hk; exact .inr (Nat.le_refl _))
    have HK := Lib.hid hk
    clear hk ha
    go_wp2
    go_ret
    refine ⟨_, rfl, ?_, HK.out⟩
    exact H1.out.own.congr (fun i hi => by simp [after])

/-- A list of types that can be read. -/
structure TSl (w : World) (A : Option Addr) (n c : Nat) (v : Nat → UInt8) : Prop where
  sl : Sl w A n (byteV v)
  z : A = none → n = 0 ∧ c = 0
  sz : n ≤ 140737488351232

theorem TSl.kept {w w' : World} {A : Option Addr} {n c : Nat} {v : Nat → UInt8} (h : TSl w A n c v) (hk : Kept S0 w w') : TSl w' A n c v :=
  ⟨(h.sl.slb.kept hk (Nat.le_refl _) (fun _ e => e.elim)).sl, h.z, h.sz⟩
theorem tsl_own {w : World} {B : Nat} {A : Option Addr} {n c : Nat} {v : Nat → UInt8} (h : Own w B 37 1 IsByte (.slice A n c) n (byteV v)) (hn : n ≤ 140737488351232) : TSl w A n c v := by
  rcases h with ⟨e, rfl⟩ | ⟨g, cap, fr, e, h1, h2, h3, h4, h5, h6⟩
  · cases e
    exact ⟨Sl.nil _, fun _ => ⟨rfl, rfl⟩, hn⟩
  · cases e
    simp only [Nat.mul_one] at h4 h5
    exact ⟨(Sl.of_row h4 h2).congr h5, (fun h => by cases h), hn⟩

set_option maxHeartbeats 1600000 in
theorem own_any (A : Option Addr) (n c : Nat) (v : Nat → UInt8) (B : Option Addr) (m d : Nat) (u : Nat → UInt8) (w : World) (hA : TSl w A n c v) (hB : TSl w B m d u) :
    Calls Try.prog 37 #[.agg #[.slice A n c, .slice B m d]] w fun e w' => ∃ y z, e = .returned (.agg #[y, z]) ∧ Own w' w.heap.size 37 1 IsByte y n (byteV v) ∧ Own w' w.heap.size 37 1 IsByte z m (byteV u) ∧ (∀ g, y.ownBlock = some g → z.ownBlock ≠ some g) ∧ Kept S0 w w' := by
  have hk0 : Kept S0 w ((w.alloc (.cells #[.slice A n c, .slice B m d] 24)).alloc (.cells #[.slice none 0 0, .slice none 0 0] 24)).drew := (((Kept.refl S0 w).alloc _).alloc _).drew
  have hB1 := ((Blk.new w 24 #[.slice A n c, .slice B m d]).alloc (.cells #[.slice none 0 0, .slice none 0 0] 24)).drew
  have hB2 := (Blk.new1 w (.cells #[.slice A n c, .slice B m d] 24) 24 #[.slice none 0 0, .slice none 0 0]).drew
  have HA := Lib.hid (hA.kept hk0)
  have HBB := Lib.hid (hB.kept hk0)
  have HB1 := Lib.hid hB1
  have HB2 := Lib.hid hB2
  have HK := Lib.hid hk0
  clear hA hB hk0 hB1 hB2
  go_enter Try.func37, Try.ntmps37
  go_wp2_with fail
  generalize hxb : w.heap.size = xb at *
  refine wp_region_R (fun w' => w'.cell? ⟨xb, 0, none⟩ = some (.slice A n c) ∧ w'.cell? ⟨xb, 1, none⟩ = some (.slice B m d)) [7] (by kernel_rfl) ?_
  generalize ((w.alloc (.cells #[.slice A n c, .slice B m d] 24)).alloc (.cells #[.slice none 0 0, .slice none 0 0] 24)).drew = w1 at *
  have hS : w1.cell? ⟨xb, 0, none⟩ = some (.slice A n c) ∧ w1.cell? ⟨xb, 1, none⟩ = some (.slice B m d) := ⟨HB1.out.cell 0, HB1.out.cell 1⟩
  refine wpAnyR_take 0 (v := ?_) rfl (by kernel_rfl) (by kernel_rfl) (by kernel_rfl) (by kernel_rfl) (fun _ _ _ h => h) hS ⟨by rfl, ?_⟩ ?_
  rotate_left; (intro w hSw; (try dsimp only at hSw); first | (go_simp; done) | (go_simp; with_reducible rfl))
  simp only [List.getElem_toArray, List.getElem_cons_zero, Act.put, List.setIfInBounds_toArray, List.set_cons_zero, List.set_cons_succ]
  refine wpAnyR_take 1 (v := ?_) rfl (by kernel_rfl) (by kernel_rfl) (by kernel_rfl) (by kernel_rfl) (fun _ _ _ h => h) hS ⟨by rfl, ?_⟩ ?_
  rotate_left; (intro w hSw; (try dsimp only at hSw); first | (go_simp; done) | (go_simp; with_reducible rfl))
  simp only [List.getElem_toArray, List.getElem_cons_zero, List.getElem_cons_succ, Act.put, List.setIfInBounds_toArray, List.set_cons_zero, List.set_cons_succ]
  refine wpAnyR_take 3 (v := ?_) rfl (by kernel_rfl) (by kernel_rfl) (by kernel_rfl) (by kernel_rfl) (fun _ _ _ h => h) hS ⟨by rfl, ?_⟩ ?_
  rotate_left; (intro w hSw; (try dsimp only at hSw); first | (go_simp; done) | (go_simp; with_reducible rfl))
  simp only [List.getElem_toArray, List.getElem_cons_zero, List.getElem_cons_succ, Act.put, List.setIfInBounds_toArray, List.set_cons_zero, List.set_cons_succ]
  refine wpAnyR_take 4 (v := ?_) rfl (by kernel_rfl) (by kernel_rfl) (by kernel_rfl) (by kernel_rfl) (fun _ _ _ h => h) hS ⟨by rfl, ?_⟩ ?_
  rotate_left; (intro w hSw; (try dsimp only at hSw); first | (go_simp; done) | (go_simp; with_reducible rfl))
  simp only [List.getElem_toArray, List.getElem_cons_zero, List.getElem_cons_succ, Act.put, List.setIfInBounds_toArray, List.set_cons_zero, List.set_cons_succ]
  refine wpAnyR_one 2 rfl (by kernel_rfl) (fun K hK2 => ?_)
  go_simp
  go_at_call 59
  refine (clonet_any A n c v w1 HA.out.sl HA.out.z HA.out.sz).mono ?_
  rintro e w2 ⟨y, rfl, hy, hk2⟩
  obtain ⟨yA, yc, hye, _, _, _⟩ := hy.out
  subst hye
  have hS2 : w2.cell? ⟨xb, 0, none⟩ = some (.slice A n c) ∧ w2.cell? ⟨xb, 1, none⟩ = some (.slice B m d) := ⟨keep0 hk2 hS.1, keep0 hk2 hS.2⟩
  refine hK2.out _ _ (fun _ => hS2) ?_
  clear hK2 K
  refine wpAnyR_one 5 rfl (by kernel_rfl) (fun K hK5 => ?_)
  go_simp
  go_at_call 59
  have hB2 := HBB.out.kept hk2
  refine (clonet_any B m d u w2 hB2.sl hB2.z hB2.sz).mono ?_
  rintro e w3 ⟨z, rfl, hz, hk3⟩
  obtain ⟨zA, zc, hze, _, _, _⟩ := hz.out
  subst hze
  have hS3 : w3.cell? ⟨xb, 0, none⟩ = some (.slice A n c) ∧ w3.cell? ⟨xb, 1, none⟩ = some (.slice B m d) := ⟨keep0 hk3 hS2.1, keep0 hk3 hS2.2⟩
  refine hK5.out _ _ (fun _ => hS3) ?_
  clear hK5 K
  refine wpAnyR_take 6 (v := ?_) rfl (by kernel_rfl) (by kernel_rfl) (by kernel_rfl) (by kernel_rfl) (fun _ _ _ h => h) hS3 ⟨by rfl, ?_⟩ ?_
  rotate_left; (intro w hSw; (try dsimp only at hSw); first | (go_simp; done) | (go_simp; with_reducible rfl))
  simp only [List.getElem_toArray, List.getElem_cons_zero, List.getElem_cons_succ, Act.put, List.setIfInBounds_toArray, List.set_cons_zero, List.set_cons_succ]
  have hb3 := hk3.blk (hk2.blk HB2.out (fun x => x)) (fun x => x)
  have t0 := hb3.cell 0
  have t1 := hb3.cell 1
  have f0 := hb3.frozen 0
  have f1 := hb3.frozen 1
  refine wpAnyR_one 7 rfl (by kernel_rfl) (fun K hK7 => ?_)
  go_simp
  refine hK7.out _ _ (fun h => absurd h (by decide)) ?_
  clear hK7 K
  refine wpAnyR_done (by kernel_rfl) ?_ _
  have hb4 := (hb3.set_ 0 (.slice yA n yc)).set_ 1 (.slice zA m zc)
  have r0 := hb4.cell 0
  have r1 := hb4.cell 1
  have hset : Kept (S1 (xb + 1)) w3 ((w3.setCell ⟨xb + 1, 0, none⟩ (.slice yA n yc)).setCell ⟨xb + 1, 1, none⟩ (.slice zA m zc)) := ((Kept.refl (S1 (xb + 1)) w3).setCell (p := ⟨xb + 1, 0, none⟩) (.inl rfl) _).setCell (p := ⟨xb + 1, 1, none⟩) (.inl rfl) _
  have hlt := HB2.out.lt
  have hsz2 := hk2.size
  have hwsz := HK.out.size
  have HY := Lib.hid ((hy.kept hk3 (fun _ _ x => x)).kept hset (fun g hg e => by have e' : g = xb + 1 := e; have := (hy.lt g hg).1; omega))
  have HZ := Lib.hid (hz.kept hset (fun g hg e => by have e' : g = xb + 1 := e; have := (hz.lt g hg).1; omega))
  have HD := Lib.hid (show ∀ g, (Value.slice yA n yc).ownBlock = some g → (Value.slice zA m zc).ownBlock ≠ some g from fun g h1 h2 => by have := (hy.lt g h1).2; have := (hz.lt g h2).1; omega)
  have HKK := Lib.hid (((HK.out.then0 hk2).then0 hk3).trans_ hset (fun i e => .inr (by have e' : i = xb + 1 := e; omega)))
  clear hS hS2 hS3 hk2 hk3 hy hz hb3 t0 t1 f0 f1 hset hB2 hb4
  go_wp2_with fail
  exact bodyPost_ret (v := .agg #[.slice yA n yc, .slice zA m zc]) (by simp [results, Try.results37, go_sem, r0, r1]) rfl ⟨_, _, rfl, HY.out.mono (by omega), HZ.out.mono (by omega), HD.out, HKK.out⟩

def eqT (n m : Nat) (v u : Nat → UInt8) : Bool := decide (n = m ∧ ∀ i, i < n → v i = u i)
theorem eqT_true {n : Nat} {v u : Nat → UInt8} (h : ∀ i, i < n → v i = u i) : eqT n n v u = true := decide_eq_true ⟨rfl, h⟩
theorem eqT_ne {n m : Nat} {v u : Nat → UInt8} (h : n ≠ m) : eqT n m v u = false := decide_eq_false fun x => h x.1
theorem eqT_at {n m i : Nat} {v u : Nat → UInt8} (hi : i < n) (h : v i ≠ u i) : eqT n m v u = false := decide_eq_false fun x => h (x.2 i hi)

set_option maxHeartbeats 1600000 in
theorem equalt_any (A B : Option Addr) (n m c d : Nat) (v u : Nat → UInt8) (w : World) (hA : Sl w A n (byteV v)) (hB : Sl w B m (byteV u)) (hn : n ≤ 9223372036854775806) (hm : m ≤ 9223372036854775806) :
    Calls Try.prog 85 #[.slice A n c, .slice B m d] w fun e w' => e = .returned (.bool (eqT n m v u)) ∧ Kept S0 w w' := by
  by_cases hnm : n = m
  · subst hnm
    have e0 : (((n : Nat) : Int) != (n : Int)) = false := by simp
    have HA := Lib.hid hA
    have HB := Lib.hid hB
    clear hA hB
    go_enter Try.func85, Try.ntmps85
    go_wp2_with fail
    go_loopw [13] (fun i wr => ∃ k : Nat, k ≤ n ∧ i = .int .i64 (k : Int) ∧ (∀ j, j < k → v j = u j) ∧ ∃ q, wr = w.drewN q) (fun i _ => n - (intOf i).toNat)
    case atStart => exact ⟨0, by omega, rfl, fun j hj => absurd hj (by omega), 0, rfl⟩
    case round =>
      obtain ⟨k, hk, rfl, heq, q, rfl⟩ := hrel
      by_cases hlt : k < n
      · obtain ⟨b1, o1, hAe, h1⟩ := HA.out (by omega)
        obtain ⟨b2, o2, hBe, h2⟩ := HB.out (by omega)
        subst hAe hBe
        have d0 : w.cell? ⟨b1, o1 + k, none⟩ = some (.int .u8 ((v k).toNat : Int)) := h1 k hlt
        have f0 : w.cell? ⟨b2, o2 + k, none⟩ = some (.int .u8 ((u k).toNat : Int)) := h2 k hlt
        have HE := Lib.hid heq
        clear h1 h2 heq
        by_cases hvu : v k = u k
        · have HV := Lib.hid hvu
          rw [hvu] at d0
          have e1 : (((u k).toNat : Int) != ((u k).toNat : Int)) = false := by simp
          clear hvu
          go_wp2_with fail
          go_quiet (fail)
          go_wp2_with fail
          go_roundw
          case rel => exact ⟨k + 1, by omega, by go_num, fun j hj => by
            rcases Nat.lt_or_ge j k with h | h
            · exact HE.out j h
            · obtain rfl : j = k := by omega
              exact HV.out, _, rfl⟩
          case measure => simp [intOf]; omega
        · have hne : ((v k).toNat : Int) ≠ ((u k).toNat : Int) := fun e => hvu (UInt8.toNat_inj.1 (by omega))
          have e1 : (((v k).toNat : Int) != ((u k).toNat : Int)) = true := bne_iff_ne.2 hne
          have HB := Lib.hid (eqT_at (m := n) hlt hvu)
          clear hvu hne
          go_wp2_with fail
          go_quiet (fail)
          go_wp2_with fail
          go_ret
          exact ⟨ret_bool (by rw [HB.out]), ((Kept.refl S0 w).drewN _).drewN _⟩
      · obtain rfl : k = n := by omega
        have HB2 := Lib.hid (eqT_true heq)
        clear heq
        go_wp2_with fail
        go_ret
        exact ⟨ret_bool (by rw [HB2.out]), (Kept.refl S0 w).drewN q⟩
  · have hne : ((n : Nat) : Int) ≠ (m : Int) := by omega
    have e1 : (((n : Nat) : Int) != (m : Int)) = true := bne_iff_ne.2 hne
    have HB := Lib.hid (eqT_ne (v := v) (u := u) hnm)
    clear hnm hne hA hB
    go_enter Try.func85, Try.ntmps85
    go_wp2_with fail
    go_ret
    exact ⟨ret_bool (by rw [HB.out]), Kept.refl _ _⟩

theorem same_any (A B C D : Option Addr) (n1 n2 n3 n4 c1 c2 c3 c4 : Nat) (v1 v2 v3 v4 : Nat → UInt8) (w : World) (h1 : TSl w A n1 c1 v1) (h2 : TSl w B n2 c2 v2) (h3 : TSl w C n3 c3 v3) (h4 : TSl w D n4 c4 v4) :
    Calls Try.prog 67 #[.agg #[.slice A n1 c1, .slice B n2 c2], .agg #[.slice C n3 c3, .slice D n4 c4]] w fun e w' => e = .returned (.bool (eqT n1 n3 v1 v3 && eqT n2 n4 v2 v4)) ∧ Kept S0 w w' := by
  have hka : Kept S0 w ((w.alloc (.cells #[.slice A n1 c1, .slice B n2 c2] 24)).alloc (.cells #[.slice C n3 c3, .slice D n4 c4] 24)) := ((Kept.refl S0 w).alloc _).alloc _
  have hB1 := (Blk.new w 24 #[.slice A n1 c1, .slice B n2 c2]).alloc (.cells #[.slice C n3 c3, .slice D n4 c4] 24)
  have hB2 := Blk.new1 w (.cells #[.slice A n1 c1, .slice B n2 c2] 24) 24 #[.slice C n3 c3, .slice D n4 c4]
  have a0 := hB1.cell 0
  have b0 := hB2.cell 0
  have HB1 := Lib.hid hB1
  have HB2 := Lib.hid hB2
  have H1 := Lib.hid (h1.kept hka)
  have H2 := Lib.hid (h2.kept hka)
  have H3 := Lib.hid (h3.kept hka)
  have H4 := Lib.hid (h4.kept hka)
  have HK := Lib.hid hka
  clear hB1 hB2 h1 h2 h3 h4 hka
  go_enter Try.func67, Try.ntmps67
  go_wp2_with fail
  refine (equalt_any A C n1 n3 c1 c3 v1 v3 _ H1.out.sl H3.out.sl (by have := H1.out.sz; omega) (by have := H3.out.sz; omega)).mono ?_
  rintro e w2 ⟨rfl, hk2⟩
  have HK2 := Lib.hid (HK.out.then0 hk2)
  cases he : eqT n1 n3 v1 v3 with
  | false =>
    have HE := Lib.hid he
    clear hk2 a0 b0 he
    go_wp2_with fail
    go_ret
    exact ⟨ret_bool (by rw [HE.out]; rfl), HK2.out⟩
  | true =>
    have a1 := (hk2.blk HB1.out (fun x => x)).cell 1
    have b1 := (hk2.blk HB2.out (fun x => x)).cell 1
    have HS2 := Lib.hid (H2.out.kept hk2)
    have HS4 := Lib.hid (H4.out.kept hk2)
    have HE := Lib.hid he
    clear hk2 a0 b0 he
    go_wp2_with fail
    refine (equalt_any B D n2 n4 c2 c4 v2 v4 _ HS2.out.sl HS4.out.sl (by have := HS2.out.sz; omega) (by have := HS4.out.sz; omega)).mono ?_
    rintro e w3 ⟨rfl, hk3⟩
    have HK3 := Lib.hid (HK2.out.then0 hk3)
    clear hk3 a1 b1
    go_wp2_with fail
    go_ret
    exact ⟨ret_bool (by rw [HE.out]; rfl), HK3.out⟩
end Go.Proofs.Ytlnkdnmeikpckaa
