/- Contract of a store's Typed, over functions alone. No condition. -/
import Derived.Test.YtlnkdnmeikpckaaStG
namespace Go.Proofs.Ytlnkdnmeikpckaa
open Go.RowKit

set_option maxRecDepth 100000 in
set_option maxHeartbeats 6400000 in
theorem typed_funcs {w : World} {sb : Nat} {A0 A2 A5 : Option Addr} {n0 n2 n5 c0 c2 c5 : Nat} (hb : Blk w sb 95 (stCells (.slice A0 n0 c0) (.slice none 0 0) (.slice A2 n2 c2) (.slice none 0 0) (.slice none 0 0) (.slice A5 n5 c5) (.slice none 0 0))) :
    Calls Try.prog 34 #[.pointer (some ⟨sb, 0, none⟩)] w fun e w' => e = .returned (.bool true) ∧ Kept S0 w w' := by
  have hka : Kept S0 w (w.alloc (.cells #[.pointer (some ⟨sb, 0, none⟩)] 27)) := (Kept.refl S0 w).alloc _
  have hb1 := hka.blk hb (fun x => x)
  have hx : (w.alloc (.cells #[.pointer (some ⟨sb, 0, none⟩)] 27)).cell? ⟨w.heap.size, 0, none⟩ = some (.pointer (some ⟨sb, 0, none⟩)) := (Blk.new w 27 #[.pointer (some ⟨sb, 0, none⟩)]).cell 0
  have HX := Lib.hid (show Blk (w.alloc (.cells #[.pointer (some ⟨sb, 0, none⟩)] 27)) w.heap.size 27 #[.pointer (some ⟨sb, 0, none⟩)] from Blk.new w 27 #[.pointer (some ⟨sb, 0, none⟩)])
  have k0 : (w.alloc (.cells #[.pointer (some ⟨sb, 0, none⟩)] 27)).cell? ⟨sb, 0, none⟩ = some (.bool true) := hb1.cell 0
  have k2 : (w.alloc (.cells #[.pointer (some ⟨sb, 0, none⟩)] 27)).cell? ⟨sb, 2, none⟩ = some (.slice none 0 0) := hb1.cell 2
  have k4 : (w.alloc (.cells #[.pointer (some ⟨sb, 0, none⟩)] 27)).cell? ⟨sb, 4, none⟩ = some (.slice none 0 0) := hb1.cell 4
  have k5 : (w.alloc (.cells #[.pointer (some ⟨sb, 0, none⟩)] 27)).cell? ⟨sb, 5, none⟩ = some (.slice none 0 0) := hb1.cell 5
  have HB1 := Lib.hid hb1
  have HK := Lib.hid hka
  clear hb hka hb1
  go_enter Try.func34, Try.ntmps34
  go_wp2_with fail
  generalize hrb : w.heap.size = rb at *
  generalize hwa : w.alloc (.cells #[.pointer (some ⟨sb, 0, none⟩)] 27) = w1 at *
  clear hwa
  refine (off_made _ _ k0).mono ?_
  rintro e w2 ⟨rfl, rfl⟩
  go_wp2_with fail
  go_loopw [24] (fun i wr => i = .int .i64 0 ∧ wr = w1) (fun _ _ => 0)
  case atStart => exact ⟨rfl, rfl⟩
  case round =>
    obtain ⟨rfl, rfl⟩ := hrel
    go_wp2_with fail
    go_loopw [40] (fun i wr2 => i = .int .i64 0 ∧ wr2 = wr) (fun _ _ => 0)
    case atStart => exact ⟨rfl, rfl⟩
    case round =>
      obtain ⟨rfl, rfl⟩ := hrel
      go_wp2_with fail
      go_loopw [65] (fun i wr2 => i = .int .i64 0 ∧ wr2 = wr) (fun _ _ => 0)
      case atStart => exact ⟨rfl, rfl⟩
      case round =>
        obtain ⟨rfl, rfl⟩ := hrel
        go_wp2_with fail
        have hsz : Calls Try.prog 33 #[.pointer (some ⟨sb, 0, none⟩)] wr fun e w' => e = .returned (.agg #[.int .i64 (n0 : Int), .int .i64 0, .int .i64 (n2 : Int), .int .i64 0, .int .i64 0, .int .i64 (n5 : Int), .int .i64 0]) ∧ Kept S0 wr w' := sizes_any HB1.out
        refine hsz.mono ?_
        clear hsz
        rintro e w3 ⟨rfl, hk3⟩
        have hb3 := hk3.blk HB1.out (fun x => x)
        have hka : Kept S0 w3 (w3.alloc (.cells #[.int .i64 (n0 : Int), .int .i64 0, .int .i64 (n2 : Int), .int .i64 0, .int .i64 0, .int .i64 (n5 : Int), .int .i64 0] 120)) := (Kept.refl S0 w3).alloc _
        have HKZ := Lib.hid ((HK.out.then0 hk3).then0 hka)
        have k7 : (w3.alloc (.cells #[.int .i64 (n0 : Int), .int .i64 0, .int .i64 (n2 : Int), .int .i64 0, .int .i64 0, .int .i64 (n5 : Int), .int .i64 0] 120)).cell? ⟨sb, 7, none⟩ = some (.slice none 0 0) := (hka.blk hb3 (fun x => x)).cell 7
        have x7 : (w3.alloc (.cells #[.int .i64 (n0 : Int), .int .i64 0, .int .i64 (n2 : Int), .int .i64 0, .int .i64 0, .int .i64 (n5 : Int), .int .i64 0] 120)).cell? ⟨rb, 0, none⟩ = some (.pointer (some ⟨sb, 0, none⟩)) := (hka.blk (hk3.blk HX.out (fun x => x)) (fun x => x)).cell 0
        clear k0 k2 k4 k5 hx hk3 hb3 hka
        go_wp2_with fail
        generalize (w3.alloc (.cells #[.int .i64 (n0 : Int), .int .i64 0, .int .i64 (n2 : Int), .int .i64 0, .int .i64 0, .int .i64 (n5 : Int), .int .i64 0] 120)) = w4 at *
        go_loopw [83] (fun i wr2 => i = .int .i64 0 ∧ wr2 = w4) (fun _ _ => 0)
        case atStart => exact ⟨rfl, rfl⟩
        case round =>
          obtain ⟨rfl, rfl⟩ := hrel
          go_wp2_with fail
          go_ret
          exact ⟨rfl, HKZ.out⟩
end Go.Proofs.Ytlnkdnmeikpckaa
