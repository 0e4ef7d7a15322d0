/- The contracts of 'lives' and 'one' of the statements over memories. No condition. -/
import Derived.Test.YtjkndigmoclnoaaMemG
import Derived.Test.YtjkndigmoclnoaaMemH
namespace Go.Proofs.Ytjkndigmoclnoaa
open Go.RowKit

theorem zero_ldLo : ldLo zeroF 65532 4 = 0 := by simp [ldLo, zeroF]
theorem zero_ldHi : ldHi zeroF 65532 4 = 0 := by simp [ldHi]

set_option maxHeartbeats 800000 in
theorem one_any (w : World) : Calls Try.prog 15 #[] w fun e w' => ∃ pb bb, e = .returned (.pointer (some ⟨pb, 0, none⟩)) ∧ MemAt w' pb bb 65536 1 0 false zeroF ∧ w.heap.size ≤ pb ∧ w.heap.size ≤ bb ∧ Kept S0 w w' := by
  go_enter Try.func15, Try.ntmps15
  go_wp2_with fail
  refine (new_made 1 0 false _ (by omega) (by omega) (by omega) (by decide)).mono ?_
  rintro e w1 ⟨pb, bb, rfl, hm, h1, h2, hk⟩
  go_wp2_with fail
  go_ret
  exact ⟨pb, bb, rfl, hm, h1, h2, hk⟩

set_option maxHeartbeats 1600000 in
theorem lives_any (w : World) : Calls Try.prog 10 #[] w fun e w' => e = .returned (.bool true) ∧ Kept S0 w w' := by
  go_enter Try.func10, Try.ntmps10
  go_wp2_with fail
  refine (new_made 1 2 true _ (by omega) (by omega) (by omega) (by decide)).mono ?_
  rintro e w1 ⟨pb, bb, rfl, hm, h1, h2, hk⟩
  go_wp2_with fail
  refine (load_in 65532 4 hm (by omega) (by omega) (by decide)).mono ?_
  rintro e w2 ⟨rfl, hk2⟩
  rw [zero_ldLo, zero_ldHi]
  have hB := Blk.new w2 47 #[.int .u64 0, .int .u64 0]
  have hm2 := hm.kept0 (hk2.alloc (.cells #[.int .u64 0, .int .u64 0] 47))
  have hk3 : Kept S0 w (w2.alloc (.cells #[.int .u64 0, .int .u64 0] 47)) := (hk.then0 hk2).alloc _
  have hlt : w.heap.size ≤ w2.heap.size := (hk.then0 hk2).size
  clear hm hk hk2
  go_wp2_with fail
  refine (load_out 65533 4 hm2 (by omega) (by omega) (by omega) (by decide) (by decide)).mono ?_
  rintro e w3 ⟨rfl, hk4⟩
  have hm3 := hm2.kept0 (hk4.alloc (.cells #[.int .u64 0, .int .u64 0] 47))
  have hk5 : Kept S0 w (w3.alloc (.cells #[.int .u64 0, .int .u64 0] 47)) := (hk3.then0 hk4).alloc _
  have hB3 : Blk (w3.alloc (.cells #[.int .u64 0, .int .u64 0] 47)) w2.heap.size 47 #[.int .u64 0, .int .u64 0] := (hk4.blk hB (fun x => x)).alloc _
  have hpb := hB.ne_ (hm2.obj) (by decide)
  clear hm2 hk3 hk4 hB
  go_wp2_with fail
  refine (grow_yes pb bb 1 1 _ _ _ _ _ hm3 (by omega) (by omega) (by omega) (by omega) (by decide)).mono ?_
  rintro e w4 ⟨rfl, b2, hm4, hb2, hk6⟩
  have hk7 := hk5.trans_ hk6 (fun i hi => .inr (by cases hi; exact h1))
  have hB4 := hk6.blk hB3 (fun e => hpb e)
  clear hm3 hk5 hk6 hB3
  go_wp2_with fail
  refine (grow_no pb b2 _ 1 _ _ _ _ _ hm4 (by omega) (by omega) (by omega) (by omega) (by decide)).mono ?_
  rintro e w5 ⟨rfl, rfl⟩
  have d0 := hB4.cell 0
  have d1 := hB4.cell 1
  go_wp2_with fail
  refine (pages_made pb b2 _ _ hm4.c0 hm4.c4 (by omega)).mono ?_
  rintro e w5 ⟨rfl, rfl⟩
  go_wp2_with fail
  go_ret
  exact ⟨rfl, hk7⟩
end Go.Proofs.Ytjkndigmoclnoaa
