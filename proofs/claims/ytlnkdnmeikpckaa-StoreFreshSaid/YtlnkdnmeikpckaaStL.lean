/- Contracts of copies, clones and comparisons of lists. No condition. -/
import Derived.Test.YtlnkdnmeikpckaaStI
import Derived.Laws.BitsAllLaws
namespace Go.Proofs.Ytlnkdnmeikpckaa
open Go.RowKit

theorem Try.infoV : (Try.prog.info? 40).map (fun i => (i.zero, i.size, i.bytes)) = some (some (.agg #[.int .u8 0, .int .u64 0, .int .u64 0]), 3, 24) := by kernel_rfl
theorem Try.infoU8 : (Try.prog.info? 5).map (fun i => (i.zero, i.size, i.bytes)) = some (some (.int .u8 0), 1, 1) := by kernel_rfl
theorem Try.sizeU8 : (Try.prog.info? 5).map (·.size) = some 1 := by kernel_rfl

set_option maxHeartbeats 800000 in
theorem copy_t (A : Option Addr) (n c : Nat) (v : Nat → UInt8) (w : World) (hA : Sl w A (n * 1) (byteV v)) (h0 : A = none → n = 0) (hn : n * 1 ≤ 140737488351232) :
    Calls Try.prog 7 #[.slice A n c] w fun e w' => ∃ y, e = .returned y ∧ Own w' w.heap.size 37 1 IsByte y n (byteV v) ∧ Kept S0 w w' := by
  have hown : Own w w.heap.size 37 1 IsByte (.slice none 0 0) 0 (byteV v) := Own.nil _ _ _ _ _ _
  have HA := Lib.hid hA
  have H0 := Lib.hid h0
  clear hA h0
  go_enter Try.func7, Try.ntmps7
  go_wp2_with (at_builtin; refine wpList_append_all rfl (.tmp 4) (.tmp 5) 22 rfl w.heap.size 37 (.int .u8 0) 1 1 Try.underlying22 Try.infoT rfl (by decide) IsByte (fun u hu => ⟨0, by simpa [Value.cells] using hu⟩) _ 0 (byteV v) rfl hown A n c (byteV v) rfl HA.out H0.out (fun j _ => byteV_is v j) (fun _ _ => rfl) (by unfold maxLen; omega) (by omega) (by simp) ?_)
  intro v' w' ha
  have H1 := Lib.hid ha
  obtain ⟨A', c', rfl, _⟩ := ha.own.out
  have hk : Kept S0 w w' := (Kept.refl S0 w).grown ha.grown (fun k hk => by cases hk)
  have HK := Lib.hid hk
  clear hk ha
  go_wp2
  go_ret
  refine ⟨_, rfl, ?_, HK.out⟩
  exact H1.out.own.congr (fun i hi => by simp [after])

set_option maxHeartbeats 800000 in
theorem copy_b (A : Option Addr) (n c : Nat) (v : Nat → UInt8) (w : World) (hA : Sl w A (n * 1) (byteV v)) (h0 : A = none → n = 0) (hn : n * 1 ≤ 140737488351232) :
    Calls Try.prog 9 #[.slice A n c] w fun e w' => ∃ y, e = .returned y ∧ Own w' w.heap.size 5 1 IsByte y n (byteV v) ∧ Kept S0 w w' := by
  have hown : Own w w.heap.size 5 1 IsByte (.slice none 0 0) 0 (byteV v) := Own.nil _ _ _ _ _ _
  have HA := Lib.hid hA
  have H0 := Lib.hid h0
  clear hA h0
  go_enter Try.func9, Try.ntmps9
  go_wp2_with (at_builtin; refine wpList_append_all rfl (.tmp 4) (.tmp 5) 26 rfl w.heap.size 5 (.int .u8 0) 1 1 Try.underlying26 Try.infoU8 rfl (by decide) IsByte (fun u hu => ⟨0, by simpa [Value.cells] using hu⟩) _ 0 (byteV v) rfl hown A n c (byteV v) rfl HA.out H0.out (fun j _ => byteV_is v j) (fun _ _ => rfl) (by unfold maxLen; omega) (by omega) (by simp) ?_)
  intro v' w' ha
  have H1 := Lib.hid ha
  obtain ⟨A', c', rfl, _⟩ := ha.own.out
  have hk : Kept S0 w w' := (Kept.refl S0 w).grown ha.grown (fun k hk => by cases hk)
  have HK := Lib.hid hk
  clear hk ha
  go_wp2
  go_ret
  refine ⟨_, rfl, ?_, HK.out⟩
  exact H1.out.own.congr (fun i hi => by simp [after])

set_option maxHeartbeats 800000 in
theorem clone_b (A : Option Addr) (n c : Nat) (v : Nat → UInt8) (w : World) (hA : Sl w A (n * 1) (byteV v)) (hA0 : A = none → n = 0 ∧ c = 0) (hn : n * 1 ≤ 140737488351232) :
    Calls Try.prog 46 #[.slice A n c] w fun e w' => ∃ y, e = .returned y ∧ Own w' w.heap.size 5 1 IsByte y n (byteV v) ∧ Kept S0 w w' := by
  have q := fun (w : World) (a : Option Addr) (n c n' c' : Nat) => Lib.run_eql_slice_nil (P := Try.prog) w 26 5 a n c n' c' Try.underlying26
  cases A with
  | none =>
    obtain ⟨rfl, rfl⟩ := hA0 rfl
    clear hA hA0
    go_enter Try.func46, Try.ntmps46
    go_wp2
    go_ret
    exact ⟨_, rfl, Own.nil _ _ _ _ _ _, Kept.refl _ _⟩
  | some ad =>
    have hown : Own (w.alloc (.cells #[] 5)) w.heap.size 5 1 IsByte (.slice (some ⟨w.heap.size, 0, none⟩) 0 0) 0 (byteV v) :=
      .inr ⟨w.heap.size, 0, fun _ => undef, rfl, Nat.le_refl _, Nat.le_refl _, Nat.zero_le _, ⟨#[], heap_alloc_new w _, rfl, fun i hi => absurd hi (by omega)⟩, fun i hi => absurd hi (by omega), fun i hi => absurd hi (by omega)⟩
    have hsl : Sl (w.alloc (.cells #[] 5)) (some ad) (n * 1) (byteV v) := (hA.slb.kept ((Kept.refl S0 w).alloc _) (Nat.le_refl _) (fun _ h => h.elim)).sl
    clear hA hA0
    go_enter Try.func46, Try.ntmps46
    go_wp2_with (at_builtin; refine wpList_append_all rfl (.tmp 5) (.tmp 6) 26 rfl w.heap.size 5 (.int .u8 0) 1 1 Try.underlying26 Try.infoU8 rfl (by decide) IsByte (fun u hu => ⟨0, by simpa [Value.cells] using hu⟩) _ 0 (byteV v) rfl hown (some ad) n c (byteV v) rfl hsl (fun h => by cases h) (fun j _ => byteV_is v j) (fun _ _ => rfl) (by unfold maxLen; omega) (by omega) (by simp) ?_)
    intro v' w' ha
    have H1 := Lib.hid ha
    obtain ⟨A', c', rfl, _⟩ := ha.own.out
    have hk : Kept S0 w w' := ((Kept.refl S0 w).alloc (.cells #[] 5)).grown ha.grown (fun k hk => by cases hk; exact .inr (Nat.le_refl _))
    have HK := Lib.hid hk
    clear hk ha
    go_wp2
    go_ret
    refine ⟨_, rfl, ?_, HK.out⟩
    exact H1.out.own.congr (fun i hi => by simp [after])

set_option maxHeartbeats 800000 in
theorem copy_v (A : Option Addr) (n c : Nat) (v : Nat → V3) (w : World) (hA : Sl w A (n * 3) (vcell v)) (h0 : A = none → n = 0) (hn : n * 24 ≤ 140737488351232) :
    Calls Try.prog 8 #[.slice A n c] w fun e w' => ∃ y, e = .returned y ∧ Own w' w.heap.size 40 3 AnyV y n (vcell v) ∧ Kept S0 w w' := by
  have hown : Own w w.heap.size 40 3 AnyV (.slice none 0 0) 0 (vcell v) := Own.nil _ _ _ _ _ _
  have HA := Lib.hid hA
  have H0 := Lib.hid h0
  clear hA h0
  go_enter Try.func8, Try.ntmps8
  go_wp2_with (at_builtin; refine wpList_append_all rfl (.tmp 4) (.tmp 5) 25 rfl w.heap.size 40 (.agg #[.int .u8 0, .int .u64 0, .int .u64 0]) 3 24 Try.underlying25 Try.infoV rfl (by decide) AnyV (fun _ _ => trivial) _ 0 (vcell v) rfl hown A n c (vcell v) rfl HA.out H0.out (fun _ _ => trivial) (fun _ _ => vcell_one _ _) (by unfold maxLen; omega) (by omega) (by simp) ?_)
  intro v' w' ha
  have H1 := Lib.hid ha
  obtain ⟨A', c', rfl, _⟩ := ha.own.out
  have hk : Kept S0 w w' := (Kept.refl S0 w).grown ha.grown (fun k hk => by cases hk)
  have HK := Lib.hid hk
  clear hk ha
  go_wp2
  go_ret
  refine ⟨_, rfl, ?_, HK.out⟩
  exact H1.out.own.congr (fun i hi => by simp [after])

set_option maxHeartbeats 800000 in
theorem clone_v (A : Option Addr) (n c : Nat) (v : Nat → V3) (w : World) (hA : Sl w A (n * 3) (vcell v)) (hA0 : A = none → n = 0 ∧ c = 0) (hn : n * 24 ≤ 140737488351232) :
    Calls Try.prog 44 #[.slice A n c] w fun e w' => ∃ y, e = .returned y ∧ Own w' w.heap.size 40 3 AnyV y n (vcell v) ∧ Kept S0 w w' := by
  have q := fun (w : World) (a : Option Addr) (n c n' c' : Nat) => Lib.run_eql_slice_nil (P := Try.prog) w 25 40 a n c n' c' Try.underlying25
  cases A with
  | none =>
    obtain ⟨rfl, rfl⟩ := hA0 rfl
    clear hA hA0
    go_enter Try.func44, Try.ntmps44
    go_wp2
    go_ret
    exact ⟨_, rfl, Own.nil _ _ _ _ _ _, Kept.refl _ _⟩
  | some ad =>
    have hown : Own (w.alloc (.cells #[] 40)) w.heap.size 40 3 AnyV (.slice (some ⟨w.heap.size, 0, none⟩) 0 0) 0 (vcell v) :=
      .inr ⟨w.heap.size, 0, fun _ => undef, rfl, Nat.le_refl _, Nat.le_refl _, Nat.zero_le _, ⟨#[], heap_alloc_new w _, rfl, fun i hi => absurd hi (by omega)⟩, fun i hi => absurd hi (by omega), fun i hi => absurd hi (by omega)⟩
    have hsl : Sl (w.alloc (.cells #[] 40)) (some ad) (n * 3) (vcell v) := (hA.slb.kept ((Kept.refl S0 w).alloc _) (Nat.le_refl _) (fun _ h => h.elim)).sl
    clear hA hA0
    go_enter Try.func44, Try.ntmps44
    go_wp2_with (at_builtin; refine wpList_append_all rfl (.tmp 5) (.tmp 6) 25 rfl w.heap.size 40 (.agg #[.int .u8 0, .int .u64 0, .int .u64 0]) 3 24 Try.underlying25 Try.infoV rfl (by decide) AnyV (fun _ _ => trivial) _ 0 (vcell v) rfl hown (some ad) n c (vcell v) rfl hsl (fun h => by cases h) (fun _ _ => trivial) (fun _ _ => vcell_one _ _) (by unfold maxLen; omega) (by omega) (by simp) ?_)
    intro v' w' ha
    have H1 := Lib.hid ha
    obtain ⟨A', c', rfl, _⟩ := ha.own.out
    have hk : Kept S0 w w' := ((Kept.refl S0 w).alloc (.cells #[] 40)).grown ha.grown (fun k hk => by cases hk; exact .inr (Nat.le_refl _))
    have HK := Lib.hid hk
    clear hk ha
    go_wp2
    go_ret
    refine ⟨_, rfl, ?_, HK.out⟩
    exact H1.out.own.congr (fun i hi => by simp [after])

set_option maxHeartbeats 1600000 in
theorem values_same (A B : Option Addr) (n c d : Nat) (v u : Nat → V3) (w : World) (hA : Sl w A (n * 3) (vcell v)) (hB : Sl w B (n * 3) (vcell u)) (hn : n ≤ 9223372036854775807) (he : ∀ i, i < n → v i = u i) :
    Calls Try.prog 17 #[.slice A n c, .slice B n d] w fun e w' => e = .returned (.bool true) ∧ Kept S0 w w' := by
  have HE := Lib.hid he
  clear he
  go_enter Try.func17, Try.ntmps17
  go_wp2
  go_loopw [5] (fun i wr => ∃ k : Nat, k ≤ n ∧ i = .int .i64 (k : Int) ∧ ∃ q, wr = w.drewN q) (fun i _ => n - (intOf i).toNat)
  case atStart => exact ⟨0, by omega, rfl, 0, rfl⟩
  case round =>
    obtain ⟨k, hk, rfl, q, rfl⟩ := hrel
    by_cases hlt : k < n
    · obtain ⟨b1, o1, rfl, h1⟩ := hA (by omega)
      obtain ⟨b2, o2, rfl, h2⟩ := hB (by omega)
      have d0 : w.cell? ⟨b1, o1 + k * 3, none⟩ = some (.int .u8 (v k).t) := by rw [← vcell_0]; exact h1 _ (by omega)
      have d1 : w.cell? ⟨b1, o1 + k * 3 + 1, none⟩ = some (.int .u64 (v k).lo) := by rw [← vcell_1, Nat.add_assoc]; exact h1 _ (by omega)
      have d2 : w.cell? ⟨b1, o1 + k * 3 + 2, none⟩ = some (.int .u64 (v k).hi) := by rw [← vcell_2, Nat.add_assoc]; exact h1 _ (by omega)
      have f0 : w.cell? ⟨b2, o2 + k * 3, none⟩ = some (.int .u8 (u k).t) := by rw [← vcell_0]; exact h2 _ (by omega)
      have f1 : w.cell? ⟨b2, o2 + k * 3 + 1, none⟩ = some (.int .u64 (u k).lo) := by rw [← vcell_1, Nat.add_assoc]; exact h2 _ (by omega)
      have f2 : w.cell? ⟨b2, o2 + k * 3 + 2, none⟩ = some (.int .u64 (u k).hi) := by rw [← vcell_2, Nat.add_assoc]; exact h2 _ (by omega)
      rw [HE.out k hlt] at d0 d1 d2
      have e1 : ∀ z : Int, (z == z) = true := fun z => beq_self_eq_true z
      clear hA hB h1 h2
      go_wp2
      go_quiet (fail)
      go_wp2
      go_roundw
      case rel => exact ⟨k + 1, by omega, by go_num, _, rfl⟩
      case measure => simp [intOf]; omega
    · obtain rfl : k = n := by omega
      go_wp2
      go_ret
      exact ⟨rfl, (Kept.refl S0 w).drewN q⟩
set_option maxHeartbeats 1600000 in
theorem types_same (A B : Option Addr) (n c d : Nat) (v u : Nat → UInt8) (w : World) (hA : Sl w A n (byteV v)) (hB : Sl w B n (byteV u)) (hn : n ≤ 9223372036854775807) (he : ∀ i, i < n → v i = u i) :
    Calls Try.prog 48 #[.slice A n c, .slice B n d] w fun e w' => e = .returned (.bool true) ∧ Kept S0 w w' := by
  have HE := Lib.hid he
  clear he
  go_enter Try.func48, Try.ntmps48
  go_wp2
  go_loopw [5] (fun i wr => ∃ k : Nat, k ≤ n ∧ i = .int .i64 (k : Int) ∧ ∃ q, wr = w.drewN q) (fun i _ => n - (intOf i).toNat)
  case atStart => exact ⟨0, by omega, rfl, 0, rfl⟩
  case round =>
    obtain ⟨k, hk, rfl, q, rfl⟩ := hrel
    by_cases hlt : k < n
    · obtain ⟨b1, o1, rfl, h1⟩ := hA (by omega)
      obtain ⟨b2, o2, rfl, h2⟩ := hB (by omega)
      have d1 := h1 k hlt
      have d2 := h2 k hlt
      simp only [byteV] at d1 d2
      rw [HE.out k hlt] at d1
      have hb : (((u k).toNat : Int) != ((u k).toNat : Int)) = false := by simp
      clear hA hB h1 h2
      go_wp2
      go_quiet (fail)
      go_wp2
      go_roundw
      case rel => exact ⟨k + 1, by omega, by go_num, _, rfl⟩
      case measure => simp [intOf]; omega
    · obtain rfl : k = n := by omega
      go_wp2
      go_ret
      exact ⟨rfl, (Kept.refl S0 w).drewN q⟩

set_option maxHeartbeats 1600000 in
theorem bytes_same (A B : Option Addr) (n c d : Nat) (v u : Nat → UInt8) (w : World) (hA : Sl w A n (byteV v)) (hB : Sl w B n (byteV u)) (hn : n ≤ 9223372036854775807) (he : ∀ i, i < n → v i = u i) :
    Calls Try.prog 19 #[.slice A n c, .slice B n d] w fun e w' => e = .returned (.bool true) ∧ Kept S0 w w' := by
  have HE := Lib.hid he
  clear he
  go_enter Try.func19, Try.ntmps19
  go_wp2
  go_loopw [5] (fun i wr => ∃ k : Nat, k ≤ n ∧ i = .int .i64 (k : Int) ∧ ∃ q, wr = w.drewN q) (fun i _ => n - (intOf i).toNat)
  case atStart => exact ⟨0, by omega, rfl, 0, rfl⟩
  case round =>
    obtain ⟨k, hk, rfl, q, rfl⟩ := hrel
    by_cases hlt : k < n
    · obtain ⟨b1, o1, rfl, h1⟩ := hA (by omega)
      obtain ⟨b2, o2, rfl, h2⟩ := hB (by omega)
      have d1 := h1 k hlt
      have d2 := h2 k hlt
      simp only [byteV] at d1 d2
      rw [HE.out k hlt] at d1
      have hb : (((u k).toNat : Int) != ((u k).toNat : Int)) = false := by simp
      clear hA hB h1 h2
      go_wp2
      go_quiet (fail)
      go_wp2
      go_roundw
      case rel => exact ⟨k + 1, by omega, by go_num, _, rfl⟩
      case measure => simp [intOf]; omega
    · obtain rfl : k = n := by omega
      go_wp2
      go_ret
      exact ⟨rfl, (Kept.refl S0 w).drewN q⟩

set_option maxHeartbeats 1600000 in
theorem spoil_any (B g n cap : Nat) (x : UInt8) (F : Nat → Value) (w : World) (hO : Own w B 5 1 IsByte (.slice (some ⟨g, 0, none⟩) n cap) n F) :
    Calls Try.prog 13 #[.slice (some ⟨g, 0, none⟩) n cap, .int .u8 (x.toNat : Int)] w fun e w' => e = .returned (.tuple #[]) ∧ Kept (S1 g) w w' := by
  rcases hO with ⟨e, _⟩ | ⟨g2, cap2, fr, he, hbg, hnc, hcm, hrow, hF, hQ⟩
  · cases e
  cases he
  simp only [Nat.mul_one] at hrow hQ
  obtain ⟨D1, r1, d1⟩ := run_cutS_h (P := Try.prog) 26 5 1 Try.underlying26 Try.sizeU8 (some ⟨g, 0, none⟩) n cap .i64 (cap : Int) cap rfl (by omega)
  have hD : D1 = some ⟨g, 0, none⟩ := by
    rw [d1]
    split
    · rfl
    · simp [Addr.add_lit]
  subst hD
  have HROW := Lib.hid hrow
  have HQ := Lib.hid hQ
  have hcm' : cap ≤ 9223372036854775807 := by unfold maxLen at hcm; omega
  clear d1 hF hrow hQ
  go_enter Try.func13, Try.ntmps13
  go_wp2_with fail
  go_loopw [4] (fun i wr => ∃ (j : Nat) (fr : Nat → Value), i = .int .i64 (j : Int) ∧ j ≤ cap ∧ wr.rowIs g 5 cap fr ∧ (∀ i, i < cap → IsByte (fr i)) ∧ Kept (S1 g) w wr) (fun i _ => cap - (intOf i).toNat)
  case atStart => exact ⟨0, _, rfl, by omega, HROW.out, HQ.out, Kept.refl _ _⟩
  case round =>
    clear HROW HQ
    obtain ⟨j, fr, rfl, hj, hr, hQ, hk⟩ := hrel
    by_cases hlt : j < cap
    · have hji : (j : Int) < (cap : Int) := by omega
      have uj : IntKind.i64.wrap ((j : Int) + 1) = (j : Int) + 1 := IntWalk.i64_in _ (by omega)
      obtain ⟨y, hy⟩ := hQ j hlt
      have b0 := hr.cell hlt
      rw [hy] at b0
      have z0 := hr.frozen j
      obtain ⟨q, hq⟩ : ∃ q : Nat, bits BinOp.xor IntKind.u8 (y.toNat : Int) (x.toNat : Int) = (q : Int) ∧ q ≤ 255 := ⟨y.toNat ^^^ x.toNat, u8_xor_nat _ _ (UInt8.toNat_lt _) (UInt8.toNat_lt _), by have := Nat.xor_lt_two_pow (n := 8) (UInt8.toNat_lt y) (UInt8.toNat_lt x); omega⟩
      have HR := Lib.hid (hr.set j (.int .u8 (q : Int)))
      have HQ := Lib.hid hQ
      have HK := Lib.hid (hk.setCell (p := ⟨g, j, none⟩) (.inl rfl) (.int .u8 (q : Int)))
      have hq1 := hq.1
      have hq2 := hq.2
      clear hr hk hQ hq hy
      go_wp2_with fail
      go_roundw
      case rel =>
        refine ⟨j + 1, _, by go_num, by omega, HR.out, fun i hi => ?_, HK.out⟩
        by_cases e : i = j
        · exact ⟨UInt8.ofNat q, by simp only [e, if_true]; rw [UInt8.toNat_ofNat']; congr 1; omega⟩
        · simp only [e, if_false]; exact HQ.out i hi
      case measure => simp [intOf]; omega
    · obtain rfl : j = cap := by omega
      go_wp2_with fail
      go_end0
      exact ⟨rfl, hk⟩

def refB (lo hi : Int) : Bool := (hi == 0) && decide (lo ≤ 4294967296)
/-- Does a value fit a reference's type? -/
def fitB (t lo hi el : Int) : Bool := (t == el) && refB lo hi

set_option maxHeartbeats 800000 in
theorem has_ref (t lo hi : Int) (w : World) (ht : t = 112 ∨ t = 111) : Calls Try.prog 42 #[.agg #[.int .u8 t, .int .u64 lo, .int .u64 hi]] w fun e w' => e = .returned (.bool (refB lo hi)) ∧ Kept S0 w w' := by
  by_cases hh : hi = 0
  · subst hh
    have HB := Lib.hid (show refB lo 0 = decide (lo ≤ 4294967296) by simp [refB])
    rcases ht with rfl | rfl
    all_goals
      go_enter Try.func42, Try.ntmps42
      go_wp2
      go_ret
      exact ⟨ret_bool (by rw [HB.out]), (by repeat (first | exact Kept.refl _ _ | assumption | refine Kept.drew ?_ | refine Kept.alloc ?_ _ | refine Kept.setCell ?_ (.inr (by first | exact Nat.le_refl _ | (simp; done) | omega | (simp; omega))) _))⟩
  · have h0 : (hi == 0) = false := beq_eq_false_iff_ne.2 hh
    have HB := Lib.hid (show refB lo hi = false by simp [refB, hh])
    clear hh
    rcases ht with rfl | rfl
    all_goals
      go_enter Try.func42, Try.ntmps42
      go_wp2
      go_ret
      exact ⟨ret_bool (by rw [HB.out]), (by repeat (first | exact Kept.refl _ _ | assumption | refine Kept.drew ?_ | refine Kept.alloc ?_ _ | refine Kept.setCell ?_ (.inr (by first | exact Nat.le_refl _ | (simp; done) | omega | (simp; omega))) _))⟩

def isRefB (el : Int) : Bool := (el == 112) || (el == 111)

set_option maxHeartbeats 400000 in
theorem isref_any (el : Int) (w : World) : Calls Try.prog 39 #[.int .u8 el] w fun e w' => e = .returned (.bool (isRefB el)) ∧ w = w' := by
  by_cases h1 : el = 112
  · subst h1
    go_enter Try.func39, Try.ntmps39
    go_wp2
    go_ret
    exact ⟨rfl, rfl⟩
  · have h2 : (el == 112) = false := beq_eq_false_iff_ne.2 h1
    have HB := Lib.hid (show isRefB el = (el == 111) by simp [isRefB, h1])
    clear h1
    go_enter Try.func39, Try.ntmps39
    go_wp2
    go_ret
    exact ⟨ret_bool (by rw [HB.out]), rfl⟩

end Go.Proofs.Ytlnkdnmeikpckaa
