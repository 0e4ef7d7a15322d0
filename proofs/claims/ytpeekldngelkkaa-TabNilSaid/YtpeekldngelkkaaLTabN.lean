/- The walk of the statement TabNil. No condition. -/
import Derived.Test.YtpeekldngelkkaaTabK
import Derived.Test.YtpeekldngelkkaaTabN
import Derived.Deep.DeepCutAuto
namespace Go.Proofs.Ytpeekldngelkkaa
open Go.RowKit

set_option maxHeartbeats 3200000 in
set_option maxRecDepth 100000 in
theorem nil_any (d : Int) (s o : Bool) (a f n t lo hi : Int) (A : Option Addr) (m c : Nat) (zero : Bool) (w : World) :
    Calls Try.prog 8 #[.agg #[.int .i64 d, .bool s, .bool o, .int .u32 a, .int .u32 f, .int .u32 n, .int .u8 t, .int .u64 lo, .int .u64 hi, .slice A m c], .bool zero] w fun e w' => e = .returned (.bool true) ∧ Kept S0 w w' := by
  have hB := Blk.new w 62 #[.int .i64 d, .bool s, .bool o, .int .u32 a, .int .u32 f, .int .u32 n, .int .u8 t, .int .u64 lo, .int .u64 hi, .slice A m c]
  have hk0 : Kept S0 w (w.alloc (.cells #[.int .i64 d, .bool s, .bool o, .int .u32 a, .int .u32 f, .int .u32 n, .int .u8 t, .int .u64 lo, .int .u64 hi, .slice A m c] 62)) := (Kept.refl S0 w).alloc _
  go_enter Try.func8, Try.ntmps8
  go_upto_if 13 with (fail)
  go_cut [5] (fun t5 wx => ∃ p, t5 = .pointer p ∧ NoTab wx p ∧ Blk wx w.heap.size 62 #[.int .i64 d, .bool s, .bool o, .int .u32 a, .int .u32 f, .int .u32 n, .int .u8 t, .int .u64 lo, .int .u64 hi, .slice A m c] ∧ Kept S0 w wx)
  case first =>
    cases zero with
    | true =>
      go_wp2
      go_meet
      exact ⟨_, rfl, ⟨.inr ⟨_, rfl, (Blk.new1 w _ _ _).cell 0⟩⟩, hB.alloc _, hk0.alloc _⟩
    | false =>
      go_wp2
      go_meet
      exact ⟨_, rfl, ⟨.inl rfl⟩, hB, hk0⟩
  case rest =>
    obtain ⟨p, rfl, hp, hB, hk⟩ := hcut
    go_wp2_with fail
    refine (some_any 3 (by omega) _).mono ?_
    rintro e w1 ⟨tb, lv, rfl, ht1, hk1⟩
    have hp1 := hp.kept hk1
    have hB1 := hk1.blk hB (fun x => x)
    have hkk1 := hk.then0 hk1
    clear hp hB hk hk1
    have b3 := hB1.cell 3
    have b4 := hB1.cell 4
    have b5 := hB1.cell 5
    go_wp2_with fail
    refine (get_none _ hp1).mono ?_
    rintro e w2 ⟨rfl, hk2⟩
    have hka2 := hk2.alloc (.cells #[.int .u8 0, .int .u64 0, .int .u64 0] 43)
    have hp2 := hp1.kept hka2
    have hB2 := hka2.blk hB1 (fun x => x)
    have ht2 := ht1.kept0 hka2
    have hkk2 := hkk1.then0 hka2
    clear hp1 hB1 ht1 hkk1 hk2 hka2 b3 b4 b5
    have b3 := hB2.cell 3
    have b4 := hB2.cell 4
    have b5 := hB2.cell 5
    have b6 := hB2.cell 6
    have b7 := hB2.cell 7
    have b8 := hB2.cell 8
    go_wp2_with fail
    refine (grow_none _ _ _ _ hp2).mono ?_
    rintro e w3 ⟨rfl, hk3⟩
    have hp3 := hp2.kept hk3
    have hB3 := hk3.blk hB2 (fun x => x)
    have ht3 := ht2.kept0 hk3
    have hkk3 := hkk2.then0 hk3
    clear hp2 hB2 ht2 hkk2 hk3 b3 b4 b5 b6 b7 b8
    have s0 := ht3.c0
    have b3 := hB3.cell 3
    have b4 := hB3.cell 4
    have b5 := hB3.cell 5
    have b6 := hB3.cell 6
    have b7 := hB3.cell 7
    have b8 := hB3.cell 8
    have b9 := hB3.cell 9
    go_wp2_with fail
    refine (copy_none_a _ _ _ _ hp3).mono ?_
    rintro e w4 ⟨rfl, rfl⟩
    go_wp2_with fail
    refine (copy_none_b tb _ _ _ s0 hp3).mono ?_
    rintro e w4 ⟨rfl, rfl⟩
    go_wp2_with fail
    refine (set_none _ _ _ _ hp3).mono ?_
    rintro e w4 ⟨rfl, hk4⟩
    have hp4 := hp3.kept hk4
    have hB4 := hk4.blk hB3 (fun x => x)
    have hkk4 := hkk3.then0 hk4
    clear hp3 hB3 ht3 hkk3 hk4 b3 b4 b5 b6 b7 b8 b9 s0
    have b3 := hB4.cell 3
    have b4 := hB4.cell 4
    have b5 := hB4.cell 5
    have b6 := hB4.cell 6
    have b7 := hB4.cell 7
    have b8 := hB4.cell 8
    have b9 := hB4.cell 9
    go_wp2_with fail
    refine (fill_none _ _ _ _ _ hp4).mono ?_
    rintro e w5 ⟨rfl, hk5⟩
    have hp5 := hp4.kept hk5
    have hB5 := hk5.blk hB4 (fun x => x)
    have hkk5 := hkk4.then0 hk5
    clear hp4 hB4 hkk4 hk5 b3 b4 b5 b6 b7 b8 b9
    have b3 := hB5.cell 3
    have b4 := hB5.cell 4
    have b5 := hB5.cell 5
    have b6 := hB5.cell 6
    have b7 := hB5.cell 7
    have b8 := hB5.cell 8
    have b9 := hB5.cell 9
    go_wp2_with fail
    refine (init_none _ _ _ _ _ _ hp5).mono ?_
    rintro e w6 ⟨rfl, hk6⟩
    have hp6 := hp5.kept hk6
    have hkk6 := hkk5.then0 hk6
    clear hp5 hB5 hkk5 hk6 b3 b4 b5 b6 b7 b8 b9
    go_wp2_with fail
    refine (size_none hp6).mono ?_
    rintro e w7 ⟨rfl, rfl⟩
    go_wp2_with fail
    refine (all_none hp6).mono ?_
    rintro e w7 ⟨rfl, rfl⟩
    go_wp2_with fail
    refine (type_none hp6).mono ?_
    rintro e w7 ⟨rfl, hk7⟩
    have hkk7 := hkk6.then0 hk7
    go_wp2_with fail
    refine (lives_any _).mono ?_
    rintro e w8 ⟨rfl, hk8⟩
    go_wp2_with fail
    go_ret
    exact ⟨rfl, hkk7.then0 hk8⟩
end Go.Proofs.Ytpeekldngelkkaa
