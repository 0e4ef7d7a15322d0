/- The walk of the statement StackNil. No condition. -/
import Derived.Test.YtpbaojjcbpfdaaaStkL
import Derived.Deep.DeepCutAuto
namespace Go.Proofs.Ytpbaojjcbpfdaaa
open Go.RowKit

set_option maxHeartbeats 3200000 in
set_option maxRecDepth 100000 in
theorem stkNil_any (d o n t : Int) (A B : Option Addr) (m c k e : Nat) (zero : Bool) (w : World) :
    Calls Try.prog 9 #[.agg #[.int .i64 d, .int .u16 o, .int .u32 n, .int .u8 t, .slice A m c, .slice B k e], .bool zero] w fun e w' => e = .returned (.bool true) ∧ Kept S0 w w' := by
  have hB := Blk.new w 50 #[.int .i64 d, .int .u16 o, .int .u32 n, .int .u8 t, .slice A m c, .slice B k e]
  have hk0 : Kept S0 w (w.alloc (.cells #[.int .i64 d, .int .u16 o, .int .u32 n, .int .u8 t, .slice A m c, .slice B k e] 50)) := (Kept.refl S0 w).alloc _
  go_enter Try.func9, Try.ntmps9
  go_upto_if 14 with (fail)
  go_cut [5] (fun t5 wx => ∃ p, t5 = .pointer p ∧ NoStk wx (.pointer p) ∧ Blk wx w.heap.size 50 #[.int .i64 d, .int .u16 o, .int .u32 n, .int .u8 t, .slice A m c, .slice B k e] ∧ Kept S0 w wx)
  case first =>
    cases zero with
    | true =>
      go_wp2
      go_meet
      exact ⟨_, rfl, .inr ⟨_, rfl, (Blk.new1 w _ _ _).cell 0⟩, hB.alloc _, hk0.alloc _⟩
    | false =>
      go_wp2
      go_meet
      exact ⟨_, rfl, .inl rfl, hB, hk0⟩
  case rest =>
    obtain ⟨p, rfl, hp, hB, hk⟩ := hcut
    have b1 := hB.cell 1
    have b2 := hB.cell 2
    have b3 := hB.cell 3
    have b4 := hB.cell 4
    have b5 := hB.cell 5
    have HB := Lib.hid hB
    have HK := Lib.hid hk
    have HP := Lib.hid hp
    clear hB hk hp
    go_wp2_with fail
    refine (take_no HP.out).mono ?_
    rintro e w1 ⟨rfl, hk⟩
    have hB := hk.blk HB.out (fun x => x)
    have hp := HP.out.kept0 hk
    have hK := HK.out.then0 hk
    clear b1 b2 b3 b4 b5 HB HP HK hk
    have b1 := hB.cell 1
    have b2 := hB.cell 2
    have b3 := hB.cell 3
    have b4 := hB.cell 4
    have b5 := hB.cell 5
    have HB := Lib.hid hB
    have HK := Lib.hid hK
    have HP := Lib.hid hp
    clear hB hK hp
    go_wp2_with fail
    refine (takeOf_no HP.out _).mono ?_
    rintro e w2 ⟨rfl, hk⟩
    have hB := hk.blk HB.out (fun x => x)
    have hp := HP.out.kept0 hk
    have hK := HK.out.then0 hk
    clear b1 b2 b3 b4 b5 HB HP HK hk
    have b1 := hB.cell 1
    have b2 := hB.cell 2
    have b3 := hB.cell 3
    have b4 := hB.cell 4
    have b5 := hB.cell 5
    have HB := Lib.hid hB
    have HK := Lib.hid hK
    have HP := Lib.hid hp
    clear hB hK hp
    go_wp2_with fail
    refine (close_no HP.out).mono ?_
    rintro e w3 ⟨rfl, hk⟩
    have hk := hk.alloc (.cells #[.int .u16 0, .slice none 0 0, .slice none 0 0, .int .i64 0, .bool false] 39)
    have hB := hk.blk HB.out (fun x => x)
    have hp := HP.out.kept0 hk
    have hK := HK.out.then0 hk
    clear b1 b2 b3 b4 b5 HB HP HK hk
    have b1 := hB.cell 1
    have b2 := hB.cell 2
    have b3 := hB.cell 3
    have b4 := hB.cell 4
    have b5 := hB.cell 5
    have HB := Lib.hid hB
    have HK := Lib.hid hK
    have HP := Lib.hid hp
    clear hB hK hp
    go_wp2_with fail
    refine (label_no HP.out _).mono ?_
    rintro e w4 ⟨rfl, hk⟩
    have hB := hk.blk HB.out (fun x => x)
    have hp := HP.out.kept0 hk
    have hK := HK.out.then0 hk
    clear b1 b2 b3 b4 b5 HB HP HK hk
    have b1 := hB.cell 1
    have b2 := hB.cell 2
    have b3 := hB.cell 3
    have b4 := hB.cell 4
    have b5 := hB.cell 5
    have HB := Lib.hid hB
    have HK := Lib.hid hK
    have HP := Lib.hid hp
    clear hB hK hp
    go_wp2_with fail
    refine (push_no HP.out _).mono ?_
    rintro e w5 ⟨rfl, hk⟩
    have hB := hk.blk HB.out (fun x => x)
    have hp := HP.out.kept0 hk
    have hK := HK.out.then0 hk
    clear b1 b2 b3 b4 b5 HB HP HK hk
    have b1 := hB.cell 1
    have b2 := hB.cell 2
    have b3 := hB.cell 3
    have b4 := hB.cell 4
    have b5 := hB.cell 5
    have HB := Lib.hid hB
    have HK := Lib.hid hK
    have HP := Lib.hid hp
    clear hB hK hp
    go_wp2_with fail
    refine (takeAll_no HP.out _).mono ?_
    rintro e w6 ⟨rfl, hk⟩
    have hB := hk.blk HB.out (fun x => x)
    have hp := HP.out.kept0 hk
    have hK := HK.out.then0 hk
    clear b1 b2 b3 b4 b5 HB HP HK hk
    have b1 := hB.cell 1
    have b2 := hB.cell 2
    have b3 := hB.cell 3
    have b4 := hB.cell 4
    have b5 := hB.cell 5
    have HB := Lib.hid hB
    have HK := Lib.hid hK
    have HP := Lib.hid hp
    clear hB hK hp
    go_wp2_with fail
    refine (open_no HP.out _ _ _).mono ?_
    rintro e w7 ⟨rfl, hk⟩
    have hB := hk.blk HB.out (fun x => x)
    have hp := HP.out.kept0 hk
    have hK := HK.out.then0 hk
    clear b1 b2 b3 b4 b5 HB HP HK hk
    have b1 := hB.cell 1
    have b2 := hB.cell 2
    have b3 := hB.cell 3
    have b4 := hB.cell 4
    have b5 := hB.cell 5
    have HB := Lib.hid hB
    have HK := Lib.hid hK
    have HP := Lib.hid hp
    clear hB hK hp
    go_wp2_with fail
    refine (dead_no HP.out).mono ?_
    rintro e w8 ⟨rfl, hk⟩
    have hB := hk.blk HB.out (fun x => x)
    have hp := HP.out.kept0 hk
    have hK := HK.out.then0 hk
    clear b1 b2 b3 b4 b5 HB HP HK hk
    have b1 := hB.cell 1
    have b2 := hB.cell 2
    have b3 := hB.cell 3
    have b4 := hB.cell 4
    have b5 := hB.cell 5
    have HB := Lib.hid hB
    have HK := Lib.hid hK
    have HP := Lib.hid hp
    clear hB hK hp
    go_wp2_with fail
    refine (values_no HP.out).mono ?_
    rintro e w9 ⟨rfl, hk⟩
    have hB := hk.blk HB.out (fun x => x)
    have hp := HP.out.kept0 hk
    have hK := HK.out.then0 hk
    clear b1 b2 b3 b4 b5 HB HP HK hk
    have b1 := hB.cell 1
    have b2 := hB.cell 2
    have b3 := hB.cell 3
    have b4 := hB.cell 4
    have b5 := hB.cell 5
    have HB := Lib.hid hB
    have HK := Lib.hid hK
    have HP := Lib.hid hp
    clear hB hK hp
    go_wp2_with fail
    refine (frames_no HP.out).mono ?_
    rintro e w10 ⟨rfl, hk⟩
    have hB := hk.blk HB.out (fun x => x)
    have hp := HP.out.kept0 hk
    have hK := HK.out.then0 hk
    clear b1 b2 b3 b4 b5 HB HP HK hk
    have b1 := hB.cell 1
    have b2 := hB.cell 2
    have b3 := hB.cell 3
    have b4 := hB.cell 4
    have b5 := hB.cell 5
    have HB := Lib.hid hB
    have HK := Lib.hid hK
    have HP := Lib.hid hp
    clear hB hK hp
    go_wp2_with fail
    refine (lives_any _).mono ?_
    rintro e w20 ⟨rfl, hk⟩
    go_wp2_with fail
    go_ret
    exact ⟨rfl, HK.out.then0 hk⟩
end Go.Proofs.Ytpbaojjcbpfdaaa
