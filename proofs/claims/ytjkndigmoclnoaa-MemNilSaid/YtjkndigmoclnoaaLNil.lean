/- The walk of the statement MemNil. No condition. -/
import Derived.Test.YtjkndigmoclnoaaMemK
import Derived.Test.YtjkndigmoclnoaaMemN
import Derived.Deep.DeepCutAuto
namespace Go.Proofs.Ytjkndigmoclnoaa
open Go.RowKit

set_option maxHeartbeats 3200000 in
set_option maxRecDepth 100000 in
theorem nil_any (d a f n s lo hi : Int) (A : Option Addr) (m c : Nat) (zero : Bool) (w : World) :
    Calls Try.prog 8 #[.agg #[.int .i64 d, .int .u64 a, .int .u64 f, .int .u64 n, .int .i64 s, .int .u64 lo, .int .u64 hi, .slice A m c], .bool zero] w fun e w' => e = .returned (.bool true) ∧ Kept S0 w w' := by
  have hB := Blk.new w 62 #[.int .i64 d, .int .u64 a, .int .u64 f, .int .u64 n, .int .i64 s, .int .u64 lo, .int .u64 hi, .slice A m c]
  have hk0 : Kept S0 w (w.alloc (.cells #[.int .i64 d, .int .u64 a, .int .u64 f, .int .u64 n, .int .i64 s, .int .u64 lo, .int .u64 hi, .slice A m c] 62)) := (Kept.refl S0 w).alloc _
  go_enter Try.func8, Try.ntmps8
  go_upto_if 12 with (fail)
  go_cut [5] (fun t5 wx => ∃ p, t5 = .pointer p ∧ NoMem wx p ∧ Blk wx w.heap.size 62 #[.int .i64 d, .int .u64 a, .int .u64 f, .int .u64 n, .int .i64 s, .int .u64 lo, .int .u64 hi, .slice A m c] ∧ Kept S0 w wx)
  case first =>
    cases zero with
    | true =>
      go_wp2
      go_meet
      exact ⟨_, rfl, ⟨.inr ⟨_, rfl, (Blk.new1 w _ _ _).cell 0⟩⟩, hB.alloc _, hk0.alloc _⟩
    | false =>
      go_wp2
      go_meet
      exact ⟨_, rfl, ⟨.inl rfl⟩, hB, hk0⟩
  case rest =>
    obtain ⟨p, rfl, hp, hB, hk⟩ := hcut
    have b1 := hB.cell 1
    have b3 := hB.cell 3
    have b4 := hB.cell 4
    go_wp2_with fail
    refine (grow_none _ hp).mono ?_
    rintro e w1 ⟨rfl, rfl⟩
    go_wp2_with fail
    refine (load_none _ _ hp).mono ?_
    rintro e w1 ⟨rfl, hk1⟩
    have hkv : Kept S0 w1 (w1.alloc (.cells #[.int .u64 0, .int .u64 0] 47)) := (Kept.refl S0 w1).alloc _
    have hk2 := hk1.then0 hkv
    have hp2 := hp.kept hk2
    have hB2 := hk2.blk hB (fun x => x)
    have hk3 := hk.then0 hk2
    have c1 := hB2.cell 1
    have c4 := hB2.cell 4
    have c2 := hB2.cell 2
    have c3 := hB2.cell 3
    have c5 := hB2.cell 5
    have c6 := hB2.cell 6
    have c7 := hB2.cell 7
    clear hB b1 b3 b4 hk hk1 hkv hk2 hp
    go_wp2_with fail
    refine (read_none _ _ hp2).mono ?_
    rintro e w2 ⟨rfl, rfl⟩
    go_wp2_with fail
    refine (store_none _ _ _ _ hp2).mono ?_
    rintro e w3 ⟨rfl, hk4⟩
    have hp3 := hp2.kept hk4
    have hB3 := hk4.blk hB2 (fun x => x)
    have hk5 := hk3.then0 hk4
    have d1 := hB3.cell 1
    have d2 := hB3.cell 2
    have d3 := hB3.cell 3
    have d7 := hB3.cell 7
    clear hB2 hp2 hk3 hk4 c1 c2 c3 c4 c5 c6 c7
    go_wp2_with fail
    refine (write_none _ _ _ _ hp3).mono ?_
    rintro e w4 ⟨rfl, rfl⟩
    go_wp2_with fail
    refine (fill_none _ _ _ hp3).mono ?_
    rintro e w4 ⟨rfl, rfl⟩
    go_wp2_with fail
    refine (copy_none _ _ _ hp3).mono ?_
    rintro e w4 ⟨rfl, rfl⟩
    go_wp2_with fail
    refine (init_none _ _ _ _ _ _ hp3).mono ?_
    rintro e w4 ⟨rfl, rfl⟩
    go_wp2_with fail
    refine (pages_none hp3).mono ?_
    rintro e w4 ⟨rfl, rfl⟩
    go_wp2_with fail
    refine (sum_none hp3).mono ?_
    rintro e w4 ⟨rfl, rfl⟩
    go_wp2_with fail
    refine (type_none hp3).mono ?_
    rintro e w5 ⟨rfl, hk6⟩
    have hk7 := hk5.then0 hk6
    clear hB3 hp3 hk5 hk6 d1 d2 d3 d7
    go_wp2_with fail
    refine (lives_any _).mono ?_
    rintro e w6 ⟨rfl, hk8⟩
    go_wp2_with fail
    go_ret
    exact ⟨rfl, hk7.then0 hk8⟩
end Go.Proofs.Ytjkndigmoclnoaa
