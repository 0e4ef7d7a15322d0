/- Contracts of a table's Init. No condition. -/
import Derived.Test.YtpeekldngelkkaaTabP
namespace Go.Proofs.Ytpeekldngelkkaa
open Go.RowKit

set_option maxHeartbeats 800000 in
theorem copyvals_any (A : Option Addr) (n c : Nat) (v : Nat → V3) (w : World) (hA : Sl w A (n * 3) (vcell v)) (h0 : A = none → n = 0) (hn : n * 24 ≤ 140737488351232) :
    Calls Try.prog 22 #[.slice A n c] w fun e w' => ∃ y, e = .returned y ∧ Own w' w.heap.size 43 3 AnyV y n (vcell v) ∧ Kept S0 w w' := by
  have hown : Own w w.heap.size 43 3 AnyV (.slice none 0 0) 0 (vcell v) := Own.nil _ _ _ _ _ _
  have HA := Lib.hid hA
  have H0 := Lib.hid h0
  clear hA h0
  go_enter Try.func22, Try.ntmps22
  go_wp2_with (at_builtin; refine wpList_append_all rfl (.tmp 4) (.tmp 5) 24 rfl w.heap.size 43 (.agg #[.int .u8 0, .int .u64 0, .int .u64 0]) 3 24 Try.underlying24 Try.infoV rfl (by decide) AnyV (fun _ _ => trivial) _ 0 (vcell v) rfl hown A n c (vcell v) rfl HA.out H0.out (fun _ _ => trivial) (fun _ _ => vcell_one _ _) (by unfold maxLen; omega) (by omega) (by simp) ?_)
  intro v' w' ha
  have H1 := Lib.hid ha
  obtain ⟨A', c', rfl, _⟩ := ha.own.out
  have hk : Kept S0 w w' := (Kept.refl S0 w).grown ha.grown (fun k hk => by cases hk)
  have HK := Lib.hid hk
  clear hk ha
  go_wp2
  go_ret
  refine ⟨_, rfl, ?_, HK.out⟩
  exact H1.out.own.congr (fun i hi => by simp [after])

section
variable {w : World} {tb base N : Nat} {el mn mx : Int} {bd : Bool} {lv : Value} {f : Nat → V3}

set_option maxHeartbeats 1600000 in
theorem init_bad (x y n : Int) (A : Option Addr) (m c : Nat) (v : Nat → V3) (hm : TabAt w tb base N el mn mx bd lv f) (hel : el = 112 ∨ el = 111) (hA : Sl w A (m * 3) (vcell v)) (hmm : m ≤ 9223372036854775806) (hf : badB v m el = true) :
    Calls Try.prog 20 #[.pointer (some ⟨tb, 0, none⟩), .int .u32 x, .slice A m c, .int .u32 y, .int .u32 n] w fun e w' => e = .returned (.int .i64 2) ∧ Kept S0 w w' := by
  have hka : Kept S0 w (w.alloc (.cells #[.pointer (some ⟨tb, 0, none⟩)] 22)) := (Kept.refl S0 w).alloc _
  have hm1 := hm.kept0 hka
  have c0 := hm1.c0
  have hB := Blk.new w 22 #[.pointer (some ⟨tb, 0, none⟩)]
  have r0 : (w.alloc (.cells #[.pointer (some ⟨tb, 0, none⟩)] 22)).cell? ⟨w.heap.size, 0, none⟩ = some (.pointer (some ⟨tb, 0, none⟩)) := hB.cell 0
  have HC := Lib.hid (contains_fit A m c v w.heap.size tb el _ hel (hA.slb.kept hka (Nat.le_refl _) (fun _ h => h.elim)).sl hmm r0 hm1.c1)
  have HF := Lib.hid hf
  clear hB hm hm1 hf hA
  go_enter Try.func20, Try.ntmps20
  go_wp2_with fail
  refine (off_made _ _ c0).mono ?_
  rintro e w1 ⟨rfl, rfl⟩
  go_wp2_with fail
  refine HC.out.mono ?_
  rintro e w1 ⟨rfl, hk⟩
  rw [HF.out]
  go_wp2_with fail
  go_ret
  exact ⟨rfl, hka.then0 hk⟩

set_option maxHeartbeats 1600000 in
theorem init_trap (x y n : Int) (A : Option Addr) (m c : Nat) (v : Nat → V3) (hm : TabAt w tb base N el mn mx bd lv f) (hN : N ≤ 16384) (hel : el = 112 ∨ el = 111) (hA : Sl w A (m * 3) (vcell v)) (hmm : m ≤ 9223372036854775806) (hf : badB v m el = false)
    (h1 : 0 ≤ x) (h2 : 0 ≤ y) (h3 : 0 ≤ n) (h4 : x ≤ 4294967295) (h5 : y ≤ 4294967295) (h6 : n ≤ 4294967295) (ho : inB x n N = false ∨ inB y n m = false) :
    Calls Try.prog 20 #[.pointer (some ⟨tb, 0, none⟩), .int .u32 x, .slice A m c, .int .u32 y, .int .u32 n] w fun e w' => e = .returned (.int .i64 6) ∧ Kept S0 w w' := by
  have hka : Kept S0 w (w.alloc (.cells #[.pointer (some ⟨tb, 0, none⟩)] 22)) := (Kept.refl S0 w).alloc _
  have hm1 := hm.kept0 hka
  have c0 := hm1.c0
  have hB := Blk.new w 22 #[.pointer (some ⟨tb, 0, none⟩)]
  have r0 : (w.alloc (.cells #[.pointer (some ⟨tb, 0, none⟩)] 22)).cell? ⟨w.heap.size, 0, none⟩ = some (.pointer (some ⟨tb, 0, none⟩)) := hB.cell 0
  have HC := Lib.hid (contains_fit A m c v w.heap.size tb el _ hel (hA.slb.kept hka (Nat.le_refl _) (fun _ h => h.elim)).sl hmm r0 hm1.c1)
  have HF := Lib.hid hf
  have HM := Lib.hid hm1
  have HB := Lib.hid hB
  have HX := Lib.hid (show inB x n N = false ∨ (inB x n N = true ∧ inB y n m = false) from by
    cases hx : inB x n N with
    | false => exact .inl rfl
    | true => exact .inr ⟨rfl, ho.resolve_left (by rw [hx]; simp)⟩)
  clear hB hm hm1 hf hA ho
  go_enter Try.func20, Try.ntmps20
  go_wp2_with fail
  refine (off_made _ _ c0).mono ?_
  rintro e w1 ⟨rfl, rfl⟩
  go_wp2_with fail
  refine HC.out.mono ?_
  rintro e w2 ⟨rfl, hk⟩
  rw [HF.out]
  have hm2 := HM.out.kept0 hk
  have d5 := hm2.c5
  obtain ⟨A2, c2, hlv, _, _, _⟩ := hm2.own.out
  rw [hlv] at d5
  have s0 : w2.cell? ⟨w.heap.size, 0, none⟩ = some (.pointer (some ⟨tb, 0, none⟩)) := (hk.blk HB.out (fun x => x)).cell 0
  have hk2 := hka.then0 hk
  clear c0 r0 hm2 hk
  go_wp2_with fail
  refine (within_any _ _ _ _ h1 h3 (by omega) (by omega) h4 h6).mono ?_
  rintro e w3 ⟨rfl, rfl⟩
  rcases HX.out with hx | ⟨hx, hy⟩
  · rw [hx]
    go_wp2_with fail
    go_ret
    exact ⟨rfl, hk2⟩
  · rw [hx]
    have HY := Lib.hid hy
    clear hx hy
    go_wp2_with fail
    refine (within_any _ _ _ _ h2 h3 (by omega) (by omega) h5 h6).mono ?_
    rintro e w4 ⟨rfl, rfl⟩
    rw [HY.out]
    go_wp2_with fail
    go_ret
    exact ⟨rfl, hk2⟩

set_option maxHeartbeats 3200000 in
theorem init_in (x y n : Nat) (A : Option Addr) (m c : Nat) (v : Nat → V3) (hm : TabAt w tb base N el mn mx bd lv f) (hN : N ≤ 16384) (hel : el = 112 ∨ el = 111) (hA : Sl w A (m * 3) (vcell v)) (hmm : m ≤ 9223372036854775806) (hmc : m ≤ c) (hf : badB v m el = false)
    (h5 : y ≤ 4294967295) (hx : x + n ≤ N) (hy : y + n ≤ m) :
    Calls Try.prog 20 #[.pointer (some ⟨tb, 0, none⟩), .int .u32 (x : Int), .slice A m c, .int .u32 (y : Int), .int .u32 (n : Int)] w fun e w' => e = .returned (.int .i64 0) ∧ TabAt w' tb base N el mn mx bd lv (overV f x n (fun i => v (y + i))) ∧ Kept (SO lv) w w' := by
  have hka : Kept S0 w (w.alloc (.cells #[.pointer (some ⟨tb, 0, none⟩)] 22)) := (Kept.refl S0 w).alloc _
  have hm1 := hm.kept0 hka
  have c0 := hm1.c0
  have hB := Blk.new w 22 #[.pointer (some ⟨tb, 0, none⟩)]
  have r0 : (w.alloc (.cells #[.pointer (some ⟨tb, 0, none⟩)] 22)).cell? ⟨w.heap.size, 0, none⟩ = some (.pointer (some ⟨tb, 0, none⟩)) := hB.cell 0
  have hA1 := (hA.slb.kept hka (Nat.le_refl _) (fun _ h => h.elim))
  have HC := Lib.hid (contains_fit A m c v w.heap.size tb el _ hel hA1.sl hmm r0 hm1.c1)
  have HF := Lib.hid hf
  have HM := Lib.hid hm1
  have HB := Lib.hid hB
  have HA := Lib.hid hA1.sl
  obtain ⟨B, d, hla, hAc, _, _⟩ := hm.own.out
  have u1 : IntKind.i64.wrap (x : Int) = (x : Int) := IntWalk.i64_in _ (by omega)
  have u2 : IntKind.i64.wrap (y : Int) = (y : Int) := IntWalk.i64_in _ (by omega)
  have u3 : IntKind.i64.wrap (n : Int) = (n : Int) := IntWalk.i64_in _ (by omega)
  have u4 : IntKind.i64.wrap ((x : Int) + (n : Int)) = (x : Int) + (n : Int) := IntWalk.i64_in _ (by omega)
  have u5 : IntKind.i64.wrap ((y : Int) + (n : Int)) = (y : Int) + (n : Int) := IntWalk.i64_in _ (by omega)
  obtain ⟨D1, r1, q1⟩ := run_cutS (P := Try.prog) 24 43 3 Try.underlying24 Try.sizeV B N d .u32 .i64 (x : Int) ((x : Int) + (n : Int)) x n rfl (by omega) (by omega)
  obtain ⟨D2, r2, q2⟩ := run_cutS (P := Try.prog) 24 43 3 Try.underlying24 Try.sizeV A m c .u32 .i64 (y : Int) ((y : Int) + (n : Int)) y n rfl (by omega) (by omega)
  have HD1 := Lib.hid q1
  have HD2 := Lib.hid q2
  have HX := Lib.hid (inB_true hx)
  have HY := Lib.hid (inB_true hy)
  have hnN : n ≤ 16384 := by omega
  have hxN : x ≤ 16384 := by omega
  clear hB hm hm1 hf hA hA1 q1 q2
  go_enter Try.func20, Try.ntmps20
  go_wp2_with fail
  refine (off_made _ _ c0).mono ?_
  rintro e w1 ⟨rfl, rfl⟩
  go_wp2_with fail
  refine HC.out.mono ?_
  rintro e w2 ⟨rfl, hk⟩
  rw [HF.out]
  have hm2 := HM.out.kept0 hk
  have d5 := hm2.c5
  rw [hla] at d5
  have s0 : w2.cell? ⟨w.heap.size, 0, none⟩ = some (.pointer (some ⟨tb, 0, none⟩)) := (hk.blk HB.out (fun x => x)).cell 0
  have hk2 := hka.then0 hk
  have HM2 := Lib.hid hm2
  have HA2 := Lib.hid (HA.out.slb.kept hk (Nat.le_refl _) (fun _ h => h.elim)).sl
  clear c0 r0 hm2 hk
  go_wp2_with fail
  refine (within_any _ _ _ _ (by omega) (by omega) (by omega) (by omega) (by omega) (by omega)).mono ?_
  rintro e w3 ⟨rfl, rfl⟩
  rw [HX.out]
  go_wp2_with fail
  refine (within_any _ _ _ _ (by omega) (by omega) (by omega) (by omega) (by omega) (by omega)).mono ?_
  rintro e w4 ⟨rfl, rfl⟩
  rw [HY.out]
  go_wp2_with fail
  go_still_tail 19, (by kernel_rfl)
  change wpList _ _ _ _ _ (World.drew _)
  by_cases hn : n = 0
  · subst hn
    refine wpList_copy_zero rfl (.tmp 46) (.tmp 54) 24 24 rfl 43 3 Try.underlying24 Try.sizeV D1 D2 _ _ _ _ rfl rfl (Nat.min_self _) ?_
    go_wp2
    go_ret
    refine ⟨rfl, ?_, (hk2.drew).of0 _⟩
    rw [overV_none]
    exact HM2.out.drew
  · rcases HM2.out.own with ⟨_, h0⟩ | ⟨g, cap, fr, hl2, hbg, hNc, hcm, hrow, hF, hQ⟩
    · omega
    have hg : B = some ⟨g, 0, none⟩ ∧ d = cap := by rw [hla] at hl2; cases hl2; exact ⟨rfl, rfl⟩
    obtain ⟨rfl, rfl⟩ := hg
    have hob : lv.ownBlock = some g := by rw [hla]; rfl
    have hgb := HM2.out.own.ne_blk HM2.out.obj (by decide)
    have HROW := Lib.hid hrow
    have HFF := Lib.hid hF
    clear hrow hF hQ
    refine wpList_copy_any rfl (.tmp 46) (.tmp 54) 24 24 rfl 43 3 Try.underlying24 Try.sizeV D1 D2 _ _ _ _ rfl rfl g 43 (d * 3) (x * 3) n fr (vcell (fun i => v (y + i))) (Nat.min_self _) (World.rowIs.drew HROW.out) (fun hp => by rw [HD1.out, if_neg (by omega)]; simp [Addr.add_lit]) (by
      rw [HD2.out]
      have h := (Sl.cutS 3 HA2.out (k := y) (m := n) (cap := c) (by omega) (by omega)).congr (fun i _ => vcell_shift v y i)
      exact (h.slb.kept (Kept.refl S0 _).drew (Nat.le_refl _) (fun _ h => h.elim)).sl) (.inr (by omega)) (fun _ _ => vcell_one _ _) ?_
    intro w' hcp
    go_wp2
    go_ret
    have hk3 : Kept (SO lv) _ w' := ((Kept.refl (SO lv) _).drew).trans_ hcp.kept (fun i hi => .inl (by cases hi; exact hob))
    refine ⟨rfl, ⟨hk3.blk HM2.out.obj (fun e => hgb e), ?_, HM2.out.lo⟩, (hk2.of0 _).trans hk3⟩
    rw [hla]
    refine .inr ⟨g, d, _, rfl, hbg, hNc, hcm, hcp.row, fun i hi => ?_, fun _ _ => trivial⟩
    rw [← overlay_vcell]
    unfold overlay
    by_cases h : x * 3 ≤ i ∧ i < x * 3 + n * 3
    · rw [if_pos h, if_pos h]
    · rw [if_neg h, if_neg h]; exact HFF.out i hi
end
end Go.Proofs.Ytpeekldngelkkaa
