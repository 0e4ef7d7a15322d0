/- The walk of the statement StackDead. No condition. -/
import Derived.Test.YtpbaojjcbpfdaaaStkL
namespace Go.Proofs.Ytpbaojjcbpfdaaa
open Go.RowKit

theorem pops_dead (v u : Nat → UInt8) (h : Nat) : ∀ i, pops v h true u i h = some h
  | 0 => rfl
  | i + 1 => by rw [pops, if_pos rfl, if_pos rfl]; exact pops_dead v u h i

/-- A list that came as an argument. -/
theorem came_arg {w : World} {A : Option Addr} {n c : Nat} {v : Nat → UInt8} (hs : Sl w A c (byteV v)) (hn : n ≤ c) (hc : c ≤ 140737488351232) (h0 : A = none → c = 0) : Came (SB w.heap.size) w A n c v :=
  { sl := fun hp => (by
      obtain ⟨b, o, e, hcell⟩ := hs (by omega)
      have hlt := World.block_lt_of_cell? _ _ (hcell 0 (by omega))
      exact ⟨b, o, e, fun hb => (by have h1 : w.heap.size ≤ b := hb; have h2 : b < w.heap.size := hlt; omega), fun i hi => hcell i (by omega)⟩),
    none := fun h => (by have := h0 h; omega), le := by omega }

theorem deadF_at {F : Nat → Value} {q : Nat} {op : Int} {x y : Value} {h : Nat} {dead : Bool} (hf : FrAt F q op x y h dead) : FrAt (deadF F q) q op x y h true := by
  constructor
  · unfold deadF; rw [if_neg (by omega)]; exact hf.f0
  · unfold deadF; rw [if_neg (by omega)]; exact hf.f1
  · unfold deadF; rw [if_neg (by omega)]; exact hf.f2
  · unfold deadF; rw [if_neg (by omega)]; exact hf.f3
  · unfold deadF; rw [if_pos rfl]

set_option maxHeartbeats 3200000 in
theorem stkDead_any (A B : Option Addr) (m c k d : Nat) (v u : Nat → UInt8) (w : World) (hA : Came (SB w.heap.size) w A m c v) (hB : Came (SB w.heap.size) w B k d u) :
    Calls Try.prog 4 #[.slice A m c, .slice B k d] w fun e w' => e = .returned (.bool true) ∧ Kept S0 w w' := by
  have HA := Lib.hid hA
  have HB := Lib.hid hB
  have hml := hA.le
  have hkl := hB.le
  clear hA hB
  go_enter Try.func4, Try.ntmps4
  go_wp2_with fail
  refine (newstk_any w).mono ?_
  rintro e w1 ⟨sb, rfl, hm1, hk1⟩
  have hK1 : Kept (SB w.heap.size) w w1 := hk1.of0 _
  have HO := Lib.hid (open_any 4 m c k d 0 A B v u (fun _ => 0) sb w.heap.size 0 _ _ _ w1 hm1 ((HA.out.kept hK1).mono hm1.sk) ((HB.out.kept hK1).mono (fun _ x => x.elim)) (by omega) (by omega) hk1.size)
  have HM1 := Lib.hid hm1
  have HK1 := Lib.hid hK1
  clear hm1 hk1 hK1
  go_wp2_with fail
  refine HO.out.mono ?_
  rintro e w2 ⟨rfl, lj, lk, x, y, hm2, hk2, hx2, hy2, hax, hay, _⟩
  obtain ⟨g, cc, rfl⟩ := hm2.lf_some
  obtain ⟨xA, xc, rfl, _⟩ := hx2.out
  obtain ⟨yA, yc, rfl, _⟩ := hy2.out
  have hK2 : Kept (SB w.heap.size) w w2 := HK1.out.trans (hk2.mono HM1.out.sk)
  have hf2 := frAt_new (F := fun _ => undef) 0 4 (.slice xA m xc) (.slice yA k yc) 0 false
  have HD := Lib.hid (dead_any g 0 cc 0 hm2 (by omega) hf2.f3 (by omega) (by omega))
  have HM2 := Lib.hid hm2
  have HK2 := Lib.hid hK2
  have HX2 := Lib.hid hx2
  have HY2 := Lib.hid hy2
  have HF2 := Lib.hid (deadF_at hf2)
  clear hm2 hk2 hK2 hx2 hy2 hax hay hf2 HO
  go_wp2_with fail
  refine HD.out.mono ?_
  rintro e w3 ⟨rfl, l3, hm3, hk3, hl3⟩
  have hg3 : SB w.heap.size g := (HM2.out.frs.lt g rfl).1
  have hK3 : Kept (SB w.heap.size) w w3 := HK2.out.trans (hk3.mono (fun i hi => by
    rcases hi with e | e
    · rw [e]; exact HM2.out.lo
    · rw [e]; exact hg3))
  have hx3 := HX2.out.kept hk3 (fun i hi e => by
    rcases e with e | e
    · exact HX2.out.ne_blk HM2.out.obj (by decide) (by rw [hi]; exact congrArg some e)
    · exact own_types HX2.out HM2.out.frs (by decide) i hi (by rw [e]; rfl))
  have hy3 := HY2.out.kept hk3 (fun i hi e => by
    rcases e with e | e
    · exact HY2.out.ne_blk HM2.out.obj (by decide) (by rw [hi]; exact congrArg some e)
    · exact own_types HY2.out HM2.out.frs (by decide) i hi (by rw [e]; rfl))
  have HV := Lib.hid (values_any hm3 (by omega))
  have HM3 := Lib.hid hm3
  have HK3 := Lib.hid hK3
  have HX3 := Lib.hid hx3
  have HY3 := Lib.hid hy3
  clear hm3 hk3 hK3 hx3 hy3 HD
  go_wp2_with fail
  refine HV.out.mono ?_
  rintro e w4 ⟨z, rfl, hz, hk4⟩
  obtain ⟨zA, zc, rfl, _⟩ := hz.out
  have hm4 := HM3.out.kept0 hk4
  have hK4 := HK3.out.then0 hk4
  have HT1 := Lib.hid (takeAll_ok g 0 cc k d 0 0 B u true hm4 ((HB.out.kept hK4).mono (fun i hi => by have e : i = sb := hi; rw [e]; exact hm4.lo)) (by omega) (by omega) HF2.out.f3 HF2.out.f4 (by omega) (pops_dead _ _ _ _))
  have HX4 := Lib.hid (HX3.out.kept hk4 (fun _ _ x => x))
  have HY4 := Lib.hid (HY3.out.kept hk4 (fun _ _ x => x))
  have HM4 := Lib.hid hm4
  have HK4 := Lib.hid hK4
  clear hm4 hk4 hK4 hz HV
  go_wp2_with fail
  refine HT1.out.mono ?_
  rintro e w5 ⟨rfl, _, _, l5, hm5, hk5, hl5⟩
  have hK5 := HK4.out.trans (hk5.mono (fun i hi => by have e : i = sb := hi; rw [e]; exact hm5.lo))
  have hx5 := HX4.out.kept hk5 (fun i hi e => HX4.out.ne_blk HM4.out.obj (by decide) (by rw [hi]; exact congrArg some e))
  have hy5 := HY4.out.kept hk5 (fun i hi e => HY4.out.ne_blk HM4.out.obj (by decide) (by rw [hi]; exact congrArg some e))
  have HT2 := Lib.hid (takeAll_ok g 0 cc m c 0 0 A v true hm5 ((HA.out.kept hK5).mono (fun i hi => by have e : i = sb := hi; rw [e]; exact hm5.lo)) (by omega) (by omega) HF2.out.f3 HF2.out.f4 (by omega) (pops_dead _ _ _ _))
  have HM5 := Lib.hid hm5
  have HK5 := Lib.hid hK5
  have HX5 := Lib.hid hx5
  have HY5 := Lib.hid hy5
  clear hm5 hk5 hK5 hx5 hy5 HT1
  go_wp2_with fail
  refine HT2.out.mono ?_
  rintro e w6 ⟨rfl, _, _, l6, hm6, hk6, hl6⟩
  have hK6 := HK5.out.trans (hk6.mono (fun i hi => by have e : i = sb := hi; rw [e]; exact hm6.lo))
  have hx6 := HX5.out.kept hk6 (fun i hi e => HX5.out.ne_blk HM5.out.obj (by decide) (by rw [hi]; exact congrArg some e))
  have hy6 := HY5.out.kept hk6 (fun i hi e => HY5.out.ne_blk HM5.out.obj (by decide) (by rw [hi]; exact congrArg some e))
  have hys : (Value.slice yA k yc).ownBlock ≠ some sb := hy6.ne_blk hm6.obj (by decide)
  have hxs : (Value.slice xA m xc).ownBlock ≠ some sb := hx6.ne_blk hm6.obj (by decide)
  have CO := Lib.hid (close_ok g 0 cc 0 k 4 (.slice xA m xc) (.slice yA k yc) u true hm6 HF2.out ⟨_, _, _, rfl⟩ (came_own hy6 (fun i hi e => hys (by rw [hi]; exact congrArg some e)) hkl) (by omega) (by omega) (by omega) (pops_dead _ _ _ _))
  have HK6 := Lib.hid hK6
  have HX6 := Lib.hid hx6
  have HY6 := Lib.hid hy6
  clear hm6 hk6 hK6 hx6 hy6 HT2
  go_wp2_with fail
  refine CO.out.mono ?_
  rintro e w7 ⟨rfl, l7, hm7, hk7, hl7⟩
  have hK7 := HK6.out.trans (hk7.mono (fun i hi => by have e : i = sb := hi; rw [e]; exact hm7.lo))
  have hx7 := HX6.out.kept hk7 (fun i hi e => hxs (by rw [hi]; exact congrArg some e))
  have hy7 := HY6.out.kept hk7 (fun i hi e => hys (by rw [hi]; exact congrArg some e))
  have hka := (Kept.refl S0 w7).alloc (.cells #[.int .u16 4, .slice xA m xc, .slice yA k yc, .int .i64 0, .bool true] 39)
  have hb8 := Blk.new w7 39 #[.int .u16 4, .slice xA m xc, .slice yA k yc, .int .i64 0, .bool true]
  have hK8 := hK7.then0 hka
  obtain ⟨_, _, hye, hyc⟩ := came_own (S := S0) (hy7.kept hka (fun _ _ x => x)) (fun _ _ x => x) hkl
  cases hye
  obtain ⟨_, _, hxe, hxc⟩ := came_own (S := S0) (hx7.kept hka (fun _ _ x => x)) (fun _ _ x => x) hml
  cases hxe
  have HT := Lib.hid (types_same yA B k yc d u u _ hyc.at (HB.out.kept hK8).at (by omega) (fun _ _ => rfl))
  have HXC := Lib.hid hxc
  have HK8 := Lib.hid hK8
  have HB8 := Lib.hid hb8
  clear hm7 hk7 hK7 hx7 hy7 hka hb8 hK8 hyc hxc CO
  go_wp2_with fail
  refine HT.out.mono ?_
  rintro e w9 ⟨rfl, hk9⟩
  have hb9 := hk9.blk HB8.out (fun x => x)
  have q1 : w9.cell? ⟨w7.heap.size, 1, none⟩ = some (.slice xA m xc) := hb9.cell 1
  have hK9 := HK8.out.then0 hk9
  have HT9 := Lib.hid (types_same xA A m xc c v v w9 (HXC.out.kept hk9).at (HA.out.kept hK9).at (by omega) (fun _ _ => rfl))
  have HK9 := Lib.hid hK9
  clear hk9 hb9 hK9 HT
  go_wp2_with fail
  refine HT9.out.mono ?_
  rintro e w10 ⟨rfl, hk10⟩
  go_wp2_with fail
  refine (lives_any _).mono ?_
  rintro e w11 ⟨rfl, hk11⟩
  go_wp2_with fail
  go_ret
  exact ⟨rfl, Kept.toS0 ((HK9.out.then0 hk10).then0 hk11)⟩
end Go.Proofs.Ytpbaojjcbpfdaaa
