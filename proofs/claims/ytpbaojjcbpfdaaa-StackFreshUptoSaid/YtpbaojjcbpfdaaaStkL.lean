/- The contract of lives: it returns true. No condition. -/
import Derived.Test.YtpbaojjcbpfdaaaStkN
namespace Go.Proofs.Ytpbaojjcbpfdaaa
open Go.RowKit

/-- All blocks from one on. -/
def SB (base : Nat) : Nat → Prop := fun i => base ≤ i

theorem Kept.toS0 {w w' : World} (h : Kept (SB w.heap.size) w w') : Kept S0 w w' := (Kept.refl S0 w).trans_ h (fun _ hi => .inr hi)

theorem StkAt.sk {w : World} {sb base n k : Nat} {v : Nat → UInt8} {lv lf : Value} {F : Nat → Value} (h : StkAt w sb base n v lv k F lf) : ∀ i, SK sb lv lf i → SB base i := fun i hi => by
  rcases hi with rfl | hi | hi
  · exact h.lo
  · exact (h.vals.lt i hi).1
  · exact (h.frs.lt i hi).1

/-- Where the frames are some, their slice is written out. -/
theorem StkAt.lf_some {w : World} {sb base n q : Nat} {v : Nat → UInt8} {lv lf : Value} {F : Nat → Value} (h : StkAt w sb base n v lv (q + 1) F lf) : ∃ g c, lf = .slice (some ⟨g, 0, none⟩) (q + 1) c := by
  rcases h.frs with ⟨_, h0⟩ | ⟨g, c, fr, he, _⟩
  · omega
  · exact ⟨g, c, he⟩

theorem frAt_new {F : Nat → Value} (j : Nat) (op : Int) (x y : Value) (h : Nat) (dead : Bool) : FrAt (after (j * 5) F (frC op x y h dead)) j op x y h dead := by
  constructor <;> unfold after <;> rw [if_neg (by omega)]
  · rw [show j * 5 - j * 5 = 0 by omega]; rfl
  · rw [show j * 5 + 1 - j * 5 = 1 by omega]; rfl
  · rw [show j * 5 + 2 - j * 5 = 2 by omega]; rfl
  · rw [show j * 5 + 3 - j * 5 = 3 by omega]; rfl
  · rw [show j * 5 + 4 - j * 5 = 4 by omega]; rfl

theorem came_nil {S : Nat → Prop} {w : World} (u : Nat → UInt8) : Came S w none 0 0 u := { sl := fun h => absurd h (by omega), none := fun _ => ⟨rfl, rfl⟩, le := by omega }

theorem came_one {S : Nat → Prop} (w : World) (u : Nat → UInt8) (hS : ¬ S w.heap.size) : Came S (w.alloc (.cells #[.int .u8 ((u 0).toNat : Int)] 30)) (some ⟨w.heap.size, 0, none⟩) 1 1 u := by
  refine { sl := fun _ => ⟨_, 0, rfl, hS, fun i hi => ?_⟩, none := fun h => (by cases h), le := by omega }
  obtain rfl : i = 0 := by omega
  exact (Blk.new w 30 _).cell 0

def u127 : Nat → UInt8 := fun _ => 127

set_option maxHeartbeats 1600000 in
theorem lives_any (w : World) : Calls Try.prog 16 #[] w fun e w' => e = .returned (.bool true) ∧ Kept S0 w w' := by
  go_enter Try.func16, Try.ntmps16
  go_wp2_with fail
  refine (newstk_any w).mono ?_
  rintro e w1 ⟨sb, rfl, hm1, hk1⟩
  go_wp2_with fail
  have hka : Kept S0 w (w1.alloc (.cells #[.int .u8 127] 30)) := hk1.alloc _
  have hma := hm1.kept0 ((Kept.refl S0 w1).alloc (.cells #[.int .u8 127] 30))
  have hca := came_one (S := S0) w1 u127 (fun x => x)
  have HO := Lib.hid (open_any 0 0 0 1 1 0 none (some ⟨w1.heap.size, 0, none⟩) u127 u127 (fun _ => 0) sb w.heap.size 0 _ _ _ (w1.alloc (.cells #[.int .u8 127] 30)) hma (came_nil u127) hca (by omega) (by omega) hka.size)
  have HKA := Lib.hid hka
  have HMA := Lib.hid hma
  clear hka hma hca hm1 hk1
  refine HO.out.mono ?_
  rintro e w2 ⟨rfl, lj, lk, x, y, hm2, hk2, hx2, hy2, hax, hay, _⟩
  obtain ⟨g, c, rfl⟩ := hm2.lf_some
  obtain ⟨xA, xc, rfl, _⟩ := hx2.out
  obtain ⟨yA, yc, rfl, _⟩ := hy2.out
  have hK2 : Kept (SB w.heap.size) w w2 := (HKA.out.of0 _).trans (hk2.mono HMA.out.sk)
  have hf2 := frAt_new (F := fun _ => undef) 0 0 (.slice xA 0 xc) (.slice yA 1 yc) 0 false
  have TK := Lib.hid (take_floor g 0 c hm2 (by omega) hf2.f3 hf2.f4)
  have HM2 := Lib.hid hm2
  have HK2 := Lib.hid hK2
  have HX2 := Lib.hid hy2
  have HF2 := Lib.hid hf2
  have HAY := Lib.hid hay
  clear hm2 hk2 hK2 hx2 hy2 hax hay hf2 HO
  go_wp2_with fail
  refine TK.out.mono ?_
  rintro e w3 ⟨rfl, hk3⟩
  have hm3 := HM2.out.kept0 ((Kept.refl S0 w2).then0 hk3)
  have hmb := hm3.kept0 ((Kept.refl S0 w3).alloc (.cells #[.int .u8 127] 30))
  have hcb := came_one (S := S0) w3 u127 (fun x => x)
  have hkb : Kept (SB w.heap.size) w (w3.alloc (.cells #[.int .u8 127] 30)) := (HK2.out.then0 hk3).alloc _
  have hyb := (HX2.out.kept hk3 (fun _ _ x => x)).kept ((Kept.refl S0 w3).alloc (.cells #[.int .u8 127] 30)) (fun _ _ x => x)
  have PU := Lib.hid (push_any sb w.heap.size (0 + 0) (0 + 1) 1 1 _ u127 lj _ _ (some ⟨w3.heap.size, 0, none⟩) (w3.alloc (.cells #[.int .u8 127] 30)) hmb hcb.at (fun h => by cases h) (by omega) hkb.size)
  have HMB := Lib.hid hmb
  have HKB := Lib.hid hkb
  have HYB := Lib.hid hyb
  have hlt2 := HX2.out.lt
  have hsz3 := hk3.size
  clear hm3 hmb hcb hkb hyb hk3 TK
  go_wp2_with fail
  refine PU.out.mono ?_
  rintro e w4 ⟨rfl, l4, hm4, hk4, hl4⟩
  have hy4 : Own w4 (w1.alloc (.cells #[.int .u8 127] 30)).heap.size 30 1 IsByte (.slice yA 1 yc) 1 (byteV u127) := HYB.out.kept hk4 (fun i hi e => by
    rcases e with e | e | e
    · exact HYB.out.ne_blk HMB.out.obj (by decide) (by rw [hi]; exact congrArg some e)
    · exact HAY.out i hi e
    · simp [Value.ownBlock] at e)
  have hys : (Value.slice yA 1 yc).ownBlock ≠ some sb := hy4.ne_blk hm4.obj (by decide)
  have hK4 : Kept (SB w.heap.size) w w4 := HKB.out.trans (hk4.mono (fun i hi => HMB.out.sk i (by
    rcases hi with h | h | h
    · exact .inl h
    · exact .inr (.inl h)
    · simp [Value.ownBlock] at h)))
  have CO := Lib.hid (close_ok (w := w4) g 0 c 0 1 0 (.slice xA 0 xc) (.slice yA 1 yc) u127 false hm4 HF2.out ⟨_, _, _, rfl⟩ (came_own hy4 (fun i hi e => hys (by rw [hi]; exact congrArg some e)) (by omega)) (by omega) (by omega) (by omega) (by rfl))
  have HY4 := Lib.hid hy4
  have HK4 := Lib.hid hK4
  clear hm4 hk4 hy4 hK4 PU
  go_wp2_with fail
  refine CO.out.mono ?_
  rintro e w5 ⟨rfl, l5, hm5, hk5, hl5⟩
  have hy5 := HY4.out.kept hk5 (fun i hi e => hys (by rw [hi]; exact congrArg some e))
  have HM5 := Lib.hid hm5
  have HY5 := Lib.hid hy5
  have HK5 := Lib.hid (HK4.out.trans (hk5.mono (fun i hi => by have e : i = sb := hi; rw [e]; exact hm5.lo)))
  clear hm5 hk5 hy5 CO
  go_wp2_with fail
  have hka6 := (Kept.refl S0 w5).alloc (.cells #[.int .u16 0, .slice xA 0 xc, .slice yA 1 yc, .int .i64 0, .bool false] 39)
  have hb6 := Blk.new w5 39 #[.int .u16 0, .slice xA 0 xc, .slice yA 1 yc, .int .i64 0, .bool false]
  refine (close_none (HM5.out.kept0 hka6)).mono ?_
  rintro e w7 ⟨rfl, hk7⟩
  have hb7 := hk7.blk hb6 (fun x => x)
  have hka8 := (Kept.refl S0 w7).alloc (.cells #[.int .u16 0, .slice none 0 0, .slice none 0 0, .int .i64 0, .bool false] 39)
  have hb8 := hka8.blk hb7 (fun x => x)
  have q2 : (w7.alloc (.cells #[.int .u16 0, .slice none 0 0, .slice none 0 0, .int .i64 0, .bool false] 39)).cell? ⟨w5.heap.size, 2, none⟩ = some (.slice yA 1 yc) := hb8.cell 2
  have hk8 : Kept S0 w5 (w7.alloc (.cells #[.int .u16 0, .slice none 0 0, .slice none 0 0, .int .i64 0, .bool false] 39)) := (hka6.then0 hk7).then0 hka8
  have HK8 := Lib.hid hk8
  have HB8 := Lib.hid hb8
  clear hka6 hb6 hk7 hb7 hka8 hk8 hb8
  go_wp2_with fail
  have hn9 := Blk.new1 w7 (.cells #[.int .u16 0, .slice none 0 0, .slice none 0 0, .int .i64 0, .bool false] 39) 30 #[.int .u8 127]
  have hka9 : Kept S0 w5 ((w7.alloc (.cells #[.int .u16 0, .slice none 0 0, .slice none 0 0, .int .i64 0, .bool false] 39)).alloc (.cells #[.int .u8 127] 30)) := HK8.out.alloc _
  have hy9 := HY5.out.kept hka9 (fun _ _ x => x)
  obtain ⟨_, _, hye, hys9⟩ := came_own (S := S0) hy9 (fun _ _ x => x) (by omega)
  cases hye
  have hsn : Sl ((w7.alloc (.cells #[.int .u16 0, .slice none 0 0, .slice none 0 0, .int .i64 0, .bool false] 39)).alloc (.cells #[.int .u8 127] 30)) (some ⟨w7.heap.size + 1, 0, none⟩) 1 (byteV u127) := fun _ => ⟨_, 0, rfl, fun i hi => by
    obtain rfl : i = 0 := by omega
    exact hn9.cell 0⟩
  refine (types_same _ _ 1 _ _ u127 u127 _ hys9.at hsn (by omega) (fun _ _ => rfl)).mono ?_
  rintro e w10 ⟨rfl, hk10⟩
  go_wp2_with fail
  go_ret
  exact ⟨rfl, Kept.toS0 (HK5.out.then0 (hka9.then0 hk10))⟩
end Go.Proofs.Ytpbaojjcbpfdaaa
