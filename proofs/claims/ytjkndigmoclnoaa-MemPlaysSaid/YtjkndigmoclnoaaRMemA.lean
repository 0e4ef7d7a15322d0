/- Contracts of the document's memories: May, Size, Within, New, Fill. No condition. -/
import Derived.Test.YtjkndigmoclnoaaBase3
import Derived.Test.YtjkndigmoclnoaaMay
import Derived.Test.YtjkndigmoclnoaaMemH
import Derived.Test.YtjkndigmoclnoaaMemB
import Derived.Test.YtjkndigmoclnoaaClone
import Derived.StillTailTactics
namespace Go.Proofs.Ytjkndigmoclnoaa
open Go.RowKit

set_option maxHeartbeats 800000 in
theorem rmay_any (mn mx top : Int) (bd : Bool) (w : World) (h1 : 0 ≤ mn) (h2 : mn ≤ 4294967295) (h3 : 0 ≤ mx) (h4 : mx ≤ 4294967295) (_h5 : 0 ≤ top) (_h6 : top ≤ 18446744073709551615) :
    Calls Try.prog 33 #[.agg #[.int .u32 mn, .int .u32 mx, .bool bd], .int .u64 top] w fun e w' => e = .returned (.bool (mayB mn mx bd top)) ∧ Kept S0 w w' := by
  have u1 : IntKind.u64.wrap mn = mn := IntWalk.u64_in _ (by omega)
  have u2 : IntKind.u64.wrap mx = mx := IntWalk.u64_in _ (by omega)
  cases bd with
  | true =>
    by_cases c1 : mn ≤ mx
    · have hb := Lib.hid (show mayB mn mx true top = decide (mx ≤ top) by
        unfold mayB
        by_cases c2 : mx ≤ top
        · rw [decide_eq_true c2]; simp; omega
        · rw [decide_eq_false c2]; simp; omega)
      go_enter Try.func33, Try.ntmps33
      go_wp2
      go_ret
      exact ⟨ret_bool (by rw [hb.out]), (Kept.refl _ _).alloc _⟩
    · have hb := Lib.hid (show mayB mn mx true top = false by simp [mayB]; omega)
      have c1' : decide (mn ≤ mx) = false := decide_eq_false c1
      clear c1
      go_enter Try.func33, Try.ntmps33
      go_wp2
      go_ret
      exact ⟨ret_bool (by rw [hb.out]), (Kept.refl _ _).alloc _⟩
  | false =>
    by_cases c1 : mn ≤ top
    · have hb := Lib.hid (show mayB mn mx false top = (mx == 0) by simp [mayB, c1])
      go_enter Try.func33, Try.ntmps33
      go_wp2
      go_ret
      exact ⟨ret_bool (by rw [hb.out]), (Kept.refl _ _).alloc _⟩
    · have hb := Lib.hid (show mayB mn mx false top = false by simp [mayB, c1])
      have c1' : decide (mn ≤ top) = false := decide_eq_false c1
      clear c1
      go_enter Try.func33, Try.ntmps33
      go_wp2
      go_ret
      exact ⟨ret_bool (by rw [hb.out]), (Kept.refl _ _).alloc _⟩


set_option maxHeartbeats 400000 in
theorem rsize_any (n : Int) (w : World) : Calls Try.prog 43 #[.int .i64 n] w fun e w' => e = .returned (.bool (wordB n)) ∧ w = w' := by
  by_cases h : n = 1 ∨ n = 2 ∨ n = 4 ∨ n = 8 ∨ n = 16
  · rcases h with rfl | rfl | rfl | rfl | rfl
    all_goals
      go_enter Try.func43, Try.ntmps43
      go_wp2
      go_ret
      exact ⟨rfl, rfl⟩
  · have HB := Lib.hid (show wordB n = false by unfold wordB; exact decide_eq_false h)
    have h1 : (n == 1) = false := beq_eq_false_iff_ne.2 (fun e => h (.inl e))
    have h2 : (n == 2) = false := beq_eq_false_iff_ne.2 (fun e => h (.inr (.inl e)))
    have h3 : (n == 4) = false := beq_eq_false_iff_ne.2 (fun e => h (.inr (.inr (.inl e))))
    have h4 : (n == 8) = false := beq_eq_false_iff_ne.2 (fun e => h (.inr (.inr (.inr (.inl e)))))
    have h5 : (n == 16) = false := beq_eq_false_iff_ne.2 (fun e => h (.inr (.inr (.inr (.inr e)))))
    clear h
    go_enter Try.func43, Try.ntmps43
    go_wp2
    go_ret
    exact ⟨ret_bool (by rw [HB.out]), rfl⟩

set_option maxHeartbeats 400000 in
theorem rwithin_any (at_ n all : Int) (w : World) (h1 : 0 ≤ at_) (h2 : 0 ≤ n) (h3 : 0 ≤ all) (h4 : all ≤ 140737488351232) (h5 : at_ ≤ 18446744073709551615) (h6 : n ≤ 18446744073709551615) :
    Calls Try.prog 37 #[.int .u64 at_, .int .u64 n, .int .i64 all] w fun e w' => e = .returned (.bool (inB at_ n all)) ∧ w = w' := by
  have hw : IntKind.u64.wrap all = all := IntWalk.u64_in _ (by omega)
  by_cases hc : at_ ≤ all
  · have hs : IntKind.u64.wrap (all - at_) = all - at_ := IntWalk.u64_in _ (by omega)
    have HB := Lib.hid (show inB at_ n all = decide (n ≤ all - at_) by unfold inB; exact decide_eq_decide.2 (by omega))
    go_enter Try.func37, Try.ntmps37
    go_wp2
    go_ret
    exact ⟨ret_bool (by rw [HB.out]), rfl⟩
  · have HB := Lib.hid (show inB at_ n all = false by unfold inB; exact decide_eq_false (by omega))
    have hc' : decide (at_ ≤ all) = false := decide_eq_false hc
    clear hc
    go_enter Try.func37, Try.ntmps37
    go_wp2
    go_ret
    exact ⟨ret_bool (by rw [HB.out]), rfl⟩

def rmemCells (mn mx : Int) (bd : Bool) (lv : Value) : Array Value := #[.int .u32 mn, .int .u32 mx, .bool bd, lv]

/-- One of the document's memories, known. -/
structure RMemAt (w : World) (rb base n : Nat) (mn mx : Int) (bd : Bool) (lv : Value) (f : Nat → UInt8) : Prop where
  obj : Blk w rb 66 (rmemCells mn mx bd lv)
  own : Own w base 5 1 IsByte lv n (byteV f)
  lo : base ≤ rb

section
variable {w w' : World} {rb base n : Nat} {mn mx : Int} {bd : Bool} {lv : Value} {f : Nat → UInt8}
theorem RMemAt.c0 (h : RMemAt w rb base n mn mx bd lv f) : w.cell? ⟨rb, 0, none⟩ = some (.int .u32 mn) := h.obj.cell 0
theorem RMemAt.c1 (h : RMemAt w rb base n mn mx bd lv f) : w.cell? ⟨rb, 1, none⟩ = some (.int .u32 mx) := h.obj.cell 1
theorem RMemAt.c2 (h : RMemAt w rb base n mn mx bd lv f) : w.cell? ⟨rb, 2, none⟩ = some (.bool bd) := h.obj.cell 2
theorem RMemAt.c3 (h : RMemAt w rb base n mn mx bd lv f) : w.cell? ⟨rb, 3, none⟩ = some lv := h.obj.cell 3
theorem RMemAt.ne (h : RMemAt w rb base n mn mx bd lv f) : lv.ownBlock ≠ some rb := h.own.ne_blk h.obj (by decide)
theorem RMemAt.kept {S : Nat → Prop} (h : RMemAt w rb base n mn mx bd lv f) (hk : Kept S w w') (h1 : ¬ S rb) (h2 : ∀ g, lv.ownBlock = some g → ¬ S g) : RMemAt w' rb base n mn mx bd lv f := ⟨hk.blk h.obj h1, h.own.kept hk h2, h.lo⟩
theorem RMemAt.kept0 (h : RMemAt w rb base n mn mx bd lv f) (hk : Kept S0 w w') : RMemAt w' rb base n mn mx bd lv f := h.kept hk (fun x => x) (fun _ _ x => x)
theorem RMemAt.congr {g : Nat → UInt8} (h : RMemAt w rb base n mn mx bd lv f) (e : ∀ i, i < n → f i = g i) : RMemAt w rb base n mn mx bd lv g := ⟨h.obj, h.own.congr (fun i hi => by unfold byteV; rw [e i (by omega)]), h.lo⟩

/-- The blocks of an own slice; of an object with one. -/
def SO (lv : Value) : Nat → Prop := fun i => lv.ownBlock = some i
def ST (tb : Nat) (lv : Value) : Nat → Prop := fun i => i = tb ∨ lv.ownBlock = some i

/-- Where a memory's bytes lie. -/
theorem RMemAt.row (h : RMemAt w rb base n mn mx bd lv f) (hn : 0 < n) : ∃ g cap fr, lv = .slice (some ⟨g, 0, none⟩) n cap ∧ base ≤ g ∧ n ≤ cap ∧ cap ≤ maxLen ∧ w.rowIs g 5 cap fr ∧ (∀ i, i < n → fr i = byteV f i) ∧ ∀ i, i < cap → IsByte (fr i) := by
  rcases h.own with ⟨_, h0⟩ | ⟨g, cap, fr, h1, h2, h3, h4, h5, h6, h7⟩
  · omega
  · simp only [Nat.mul_one] at h5 h6 h7
    exact ⟨g, cap, fr, h1, h2, h3, h4, h5, h6, h7⟩

/-- A byte written. -/
theorem RMemAt.put1 {g cap : Nat} {fr : Nat → Value} (h : RMemAt w rb base n mn mx bd lv f) (hlv : lv = .slice (some ⟨g, 0, none⟩) n cap) (hbg : base ≤ g) (hnc : n ≤ cap) (hcm : cap ≤ maxLen) (hrow : w.rowIs g 5 cap fr) (hF : ∀ i, i < n → fr i = byteV f i) (hQ : ∀ i, i < cap → IsByte (fr i)) (k : Nat) (c : UInt8) :
    RMemAt (w.setCell ⟨g, k, none⟩ (.int .u8 (c.toNat : Int))) rb base n mn mx bd lv (fun i => if i = k then c else f i) ∧ Kept (SO lv) w (w.setCell ⟨g, k, none⟩ (.int .u8 (c.toNat : Int))) := by
  have hob : lv.ownBlock = some g := by rw [hlv]; rfl
  have hgt : g ≠ rb := fun e => h.ne (by rw [hob, e])
  have hk : Kept (SO lv) w (w.setCell ⟨g, k, none⟩ (.int .u8 (c.toNat : Int))) := (Kept.refl (SO lv) w).setCell (p := ⟨g, k, none⟩) (.inl hob) _
  refine ⟨⟨hk.blk h.obj (fun e => hgt (Option.some.inj (hob.symm.trans e))), ?_, h.lo⟩, hk⟩
  rw [hlv]
  refine .inr ⟨g, cap, _, rfl, hbg, hnc, hcm, by rw [Nat.mul_one]; exact hrow.set k _, fun i hi => ?_, fun i hi => ?_⟩
  · show (if i = k then Value.int .u8 (c.toNat : Int) else fr i) = Value.int .u8 (((if i = k then c else f i) : UInt8).toNat : Int)
    by_cases e : i = k
    · rw [if_pos e, if_pos e]
    · rw [if_neg e, if_neg e]; exact hF i (by omega)
  · show IsByte (if i = k then Value.int .u8 (c.toNat : Int) else fr i)
    by_cases e : i = k
    · rw [if_pos e]; exact ⟨c, rfl⟩
    · rw [if_neg e]; exact hQ i (by omega)

set_option maxHeartbeats 400000 in
theorem rfill_out (at_ k : Int) (c : UInt8) (hm : RMemAt w rb base n mn mx bd lv f) (hN : n ≤ 1048576) (h1 : 0 ≤ at_) (h2 : 0 ≤ k) (h5 : at_ ≤ 18446744073709551615) (h6 : k ≤ 18446744073709551615) (ho : inB at_ k n = false) :
    Calls Try.prog 41 #[.pointer (some ⟨rb, 0, none⟩), .int .u64 at_, .int .u8 (c.toNat : Int), .int .u64 k] w fun e w' => e = .returned (.int .i64 6) ∧ w = w' := by
  obtain ⟨A, cc, rfl, _, _, _⟩ := hm.own.out
  have c3 := hm.c3
  have HO := Lib.hid ho
  clear hm ho
  go_enter Try.func41, Try.ntmps41
  go_wp2_with fail
  refine (rwithin_any _ _ _ _ h1 h2 (by omega) (by omega) h5 h6).mono ?_
  rintro e w1 ⟨rfl, rfl⟩
  rw [HO.out]
  go_wp2_with fail
  go_ret
  exact ⟨rfl, rfl⟩

set_option maxHeartbeats 800000 in
theorem rfill_in (a k : Nat) (c : UInt8) (hm : RMemAt w rb base n mn mx bd lv f) (hN : n ≤ 1048576) (ha : a + k ≤ n) :
    Calls Try.prog 41 #[.pointer (some ⟨rb, 0, none⟩), .int .u64 (a : Int), .int .u8 (c.toNat : Int), .int .u64 (k : Int)] w fun e w' => e = .returned (.int .i64 0) ∧ RMemAt w' rb base n mn mx bd lv (fillF f a k c) ∧ Kept (SO lv) w w' := by
  obtain ⟨A, cc, hlv, _, _, _⟩ := hm.own.out
  have c3 := hm.c3
  rw [hlv] at c3
  have HI := Lib.hid (show inB a k n = true by unfold inB; exact decide_eq_true (by omega))
  have HM := Lib.hid hm
  clear hm hlv
  go_enter Try.func41, Try.ntmps41
  go_wp2_with fail
  refine (rwithin_any _ _ _ _ (by omega) (by omega) (by omega) (by omega) (by omega) (by omega)).mono ?_
  rintro e w1 ⟨rfl, rfl⟩
  rw [HI.out]
  clear c3
  go_wp2_with fail
  go_loopw [9] (fun i wr => ∃ j : Nat, i = .int .u64 (j : Int) ∧ j ≤ k ∧ RMemAt wr rb base n mn mx bd lv (fillF f a j c) ∧ Kept (SO lv) w wr) (fun i _ => k - (intOf i).toNat)
  case atStart => exact ⟨0, rfl, by omega, by rw [fillF_zero]; exact HM.out, Kept.refl _ _⟩
  case round =>
    obtain ⟨j, rfl, hj, hr, hk⟩ := hrel
    by_cases hlt : j < k
    · obtain ⟨g, cap, fr, hlv, hbg, hnc, hcm, hrow, hF, hQ⟩ := hr.row (by omega)
      obtain ⟨q, hq⟩ : ∃ q : Nat, q = a + j := ⟨_, rfl⟩
      have u3 : IntKind.u64.wrap ((a : Int) + (j : Int)) = (q : Int) := by rw [IntWalk.u64_in _ (by omega)]; omega
      have hqN : q < n := by omega
      have hji : (j : Int) < (k : Int) := by omega
      have uj : IntKind.u64.wrap ((j : Int) + 1) = (j : Int) + 1 := IntWalk.u64_in _ (by omega)
      have d3 := hr.c3
      rw [hlv] at d3
      have b0 := hrow.cell (i := q) (by omega)
      have z0 := hrow.frozen q
      have HP := Lib.hid (hr.put1 hlv hbg hnc hcm hrow hF hQ q c)
      have HQ := Lib.hid hq
      have HK := Lib.hid hk
      have HLV := Lib.hid hlv
      clear hr hrow hF hQ hk hq hlv HM
      go_wp2_with fail
      go_roundw
      case rel =>
        have hp := HP.out
        have hq := HQ.out
        refine ⟨j + 1, by go_num, by omega, ?_, HK.out.trans hp.2⟩
        have e : fillF f a (j + 1) c = fun i => if i = q then c else fillF f a j c i := by
          funext i
          unfold fillF
          by_cases e : i = q
          · rw [if_pos e, if_pos (by omega)]
          · rw [if_neg e]
            by_cases e2 : a ≤ i ∧ i < a + j
            · rw [if_pos e2, if_pos (by omega)]
            · rw [if_neg e2, if_neg (by omega)]
        rw [e]
        exact hp.1
      case measure => simp [intOf]; omega
    · obtain rfl : j = k := by omega
      clear HM
      go_wp2_with fail
      go_ret
      exact ⟨rfl, hr, hk⟩
end

section
variable (mn mx : Int) (bd : Bool) (w : World)
set_option maxHeartbeats 800000 in
theorem rnew_arg (h1 : 0 ≤ mn) (h2 : mn ≤ 4294967295) (h3 : 0 ≤ mx) (h4 : mx ≤ 4294967295) (hf : mayB mn mx bd 65536 = false) :
    Calls Try.prog 23 #[.agg #[.int .u32 mn, .int .u32 mx, .bool bd]] w fun e w' => e = .returned (.tuple #[.pointer none, .int .i64 2]) ∧ Kept S0 w w' := by
  have HF := Lib.hid hf; clear hf
  go_enter Try.func23, Try.ntmps23
  go_wp2_with fail
  refine (rmay_any _ _ _ _ _ h1 h2 h3 h4 (by omega) (by omega)).mono ?_
  rintro e w1 ⟨rfl, hk⟩
  rw [HF.out]
  go_wp2_with fail
  go_ret2
  exact ⟨rfl, ((Kept.refl S0 w).alloc _).then0 hk⟩

set_option maxHeartbeats 800000 in
theorem rnew_limit (h1 : 16 < mn) (h2 : mn ≤ 4294967295) (h3 : 0 ≤ mx) (h4 : mx ≤ 4294967295) (hf : mayB mn mx bd 65536 = true) :
    Calls Try.prog 23 #[.agg #[.int .u32 mn, .int .u32 mx, .bool bd]] w fun e w' => e = .returned (.tuple #[.pointer none, .int .i64 3]) ∧ Kept S0 w w' := by
  have HF := Lib.hid hf; clear hf
  have hB := Blk.new w 24 #[.int .u32 mn, .int .u32 mx, .bool bd]
  go_enter Try.func23, Try.ntmps23
  go_wp2_with fail
  refine (rmay_any _ _ _ _ _ (by omega) h2 h3 h4 (by omega) (by omega)).mono ?_
  rintro e w1 ⟨rfl, hk⟩
  rw [HF.out]
  have hB1 := hk.blk hB (fun h => h)
  have d0 := hB1.cell 0
  have HK := Lib.hid hk
  clear hB hB1 hk
  go_wp2_with fail
  go_ret2
  exact ⟨rfl, ((Kept.refl S0 w).alloc _).then0 HK.out⟩

set_option maxHeartbeats 1600000 in
theorem rnew_made (mn : Nat) (h1 : mn ≤ 16) (h3 : 0 ≤ mx) (h4 : mx ≤ 4294967295) (hf : mayB mn mx bd 65536 = true) :
    Calls Try.prog 23 #[.agg #[.int .u32 (mn : Int), .int .u32 mx, .bool bd]] w fun e w' => ∃ rb lv, e = .returned (.tuple #[.pointer (some ⟨rb, 0, none⟩), .int .i64 0]) ∧ RMemAt w' rb w.heap.size (mn * 65536) mn mx bd lv zeroF ∧ Kept S0 w w' := by
  have HF := Lib.hid hf; clear hf
  obtain ⟨N, hN⟩ : ∃ N : Nat, N = mn * 65536 := ⟨_, rfl⟩
  have e1 : IntKind.i64.wrap (mn : Int) = (mn : Int) := IntWalk.i64_in _ (by omega)
  have e2 : IntKind.i64.wrap (65536 * (mn : Int)) = (N : Int) := by rw [IntWalk.i64_in _ (by omega)]; omega
  have hmk := fun W => run_make_row' (P := Try.prog) 36 5 (.int .u8 0) 1 Try.underlying36 Try.info5 rfl .i64 .i64 N (by omega) (by omega) W
  have HN := Lib.hid hN; clear hN
  have hB := Blk.new w 24 #[.int .u32 (mn : Int), .int .u32 mx, .bool bd]
  go_enter Try.func23, Try.ntmps23
  go_wp2_with fail
  refine (rmay_any _ _ _ _ _ (by omega) (by omega) h3 h4 (by omega) (by omega)).mono ?_
  rintro e w1 ⟨rfl, hk⟩
  rw [HF.out]
  have hB1 := hk.blk hB (fun h => h)
  have d0 := hB1.cell 0
  have d1 := hB1.cell 1
  have d2 := hB1.cell 2
  have HK := Lib.hid hk
  have hlt : w.heap.size < w1.heap.size := hB1.lt
  clear hB hB1 hk
  go_wp2_with fail
  go_region
  go_wp2
  go_ret2
  have hk1 : Kept S0 w w1 := ((Kept.refl S0 w).alloc _).then0 HK.out
  obtain rfl := HN.out
  refine ⟨_, _, rfl, ⟨Blk.new1 w1 _ _ _, .inr ⟨w1.heap.size, mn * 65536, _, rfl, by omega, Nat.le_refl _, by unfold maxLen; omega, by rw [Nat.mul_one]; exact (World.rowIs_made w1 (.int .u8 0) _ 5).alloc _, fun _ _ => rfl, fun _ _ => ⟨0, rfl⟩⟩, by omega⟩, ((hk1.alloc _).alloc _).drew⟩
end
end Go.Proofs.Ytjkndigmoclnoaa
