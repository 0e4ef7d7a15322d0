/- Whatever the input, FlatMore returns true and its arguments read as they did. Condition: the program's listed variables hold what its text lays (the card ties them to the text). -/
import Derived.Test.YtfmblalbcodpmaaDoorMDoa
import Derived.Test.YtfmblalbcodpmaaDoorMDob
import Derived.Test.YtfmblalbcodpmaaDoorMDoc
import Derived.Test.YtfmblalbcodpmaaDoorMDod
import Derived.Test.YtfmblalbcodpmaaDoorMDoh
import Derived.Test.YtfmblalbcodpmaaDoorMFma
import Derived.Test.YtfmblalbcodpmaaDoorMFmb
import Derived.Test.YtfmblalbcodpmaaDoorMFmc
import Derived.Test.YtfmblalbcodpmaaDoorMFmd
import Derived.Test.YtfmblalbcodpmaaDoorRows
import Derived.ProofKit
import Derived.SizedLaws
import Derived.Lib.SmallJoins
namespace Go.Proofs.YtfmblalbcodpmaaDoor
open Go.RowKit
def flats2 : Array Value := #[Value.int IntKind.u16 0, Value.int IntKind.u32 0, Value.int IntKind.u32 0, Value.int IntKind.u64 0, Value.int IntKind.u8 0, Value.int IntKind.u8 0, Value.int IntKind.u8 0, Value.int IntKind.u8 0, Value.int IntKind.u8 0, Value.int IntKind.u8 0, Value.int IntKind.u8 0, Value.int IntKind.u8 0, Value.int IntKind.u8 0, Value.int IntKind.u8 0, Value.int IntKind.u8 0, Value.int IntKind.u8 0, Value.int IntKind.u8 0, Value.int IntKind.u8 0, Value.int IntKind.u8 0, Value.int IntKind.u8 0, Value.slice none 0 0, Value.int IntKind.i64 0, Value.int IntKind.i64 0, Value.int IntKind.i64 0, Value.slice none 0 0, Value.int IntKind.u16 15, Value.int IntKind.u32 0, Value.int IntKind.u32 0, Value.int IntKind.u64 0, Value.int IntKind.u8 0, Value.int IntKind.u8 0, Value.int IntKind.u8 0, Value.int IntKind.u8 0, Value.int IntKind.u8 0, Value.int IntKind.u8 0, Value.int IntKind.u8 0, Value.int IntKind.u8 0, Value.int IntKind.u8 0, Value.int IntKind.u8 0, Value.int IntKind.u8 0, Value.int IntKind.u8 0, Value.int IntKind.u8 0, Value.int IntKind.u8 0, Value.int IntKind.u8 0, Value.int IntKind.u8 0, Value.slice none 0 0, Value.int IntKind.i64 0, Value.int IntKind.i64 0, Value.int IntKind.i64 0, Value.slice none 0 0]
theorem flats2_eq : flats2 = ([flc 0, flc 15].flatMap fun f => f.arr.toList).toArray := by kernel_rfl
theorem Blk.lda {w : World} {g t : Nat} {cs : Array Value} (h : Blk w g t cs) : ∀ j, j < cs.size → w.cell? ((⟨g, 0, none⟩ : Addr).add j) = cs[j]? := fun j _ => by
  rw [addr_add, Nat.zero_add]
  exact h.cell j
set_option maxRecDepth 100000 in
set_option maxHeartbeats 16000000 in
theorem more_any (c : CC) (p : CtxP) (xA : Option Addr) (xn xc : Nat) (l : List FlP) (H more : Int) (bh : Value) (w : World) (hc : CtxAt w c p) (hl : SlFl w xA xn xc l) (hnil : xA = none → xn = 0 ∧ xc = 0) (hsp : SpTab w) (hH : -9223372036854775808 ≤ H) :
    Calls Tryd.prog 3 #[.agg c.arr, .agg #[.slice xA xn xc, .int .i64 H], .int .i64 more, bh] w fun e w' => e = .returned (.bool true) ∧ Kept S0 w w' := by
  have hka : Kept S0 w ((w.alloc (.cells c.arr 30)).alloc (.cells #[.slice xA xn xc, .int .i64 H] 33)) := ((Kept.refl S0 w).alloc _).alloc _
  have HB1 := Lib.hid (show Blk ((w.alloc (.cells c.arr 30)).alloc (.cells #[.slice xA xn xc, .int .i64 H] 33)) w.heap.size 30 c.arr from (Blk.new w _ _).alloc _)
  have HB2 := Lib.hid (show Blk ((w.alloc (.cells c.arr 30)).alloc (.cells #[.slice xA xn xc, .int .i64 H] 33)) (w.heap.size + 1) 33 #[.slice xA xn xc, .int .i64 H] from Blk.new1 w _ _ _)
  have HC := Lib.hid (hc.kept0 hka)
  have HL := Lib.hid (hl.kept0 hka)
  have HSP := Lib.hid (hsp.kept0 hka)
  have HLN := Lib.hid hl.len
  have HKA := Lib.hid hka
  have HNIL := Lib.hid hnil
  clear hka hc hl hsp hnil
  go_enter Tryd.func3, Tryd.ntmps3
  go_upto_region 1 with fail
  generalize ((w.alloc (.cells c.arr 30)).alloc (.cells #[.slice xA xn xc, .int .i64 H] 33)) = w2 at *
  generalize hg : w.heap.size = g at *
  have e0 : w2.cell? ⟨g + 1, 0, none⟩ = some (.slice xA xn xc) := HB2.out.cell 0
  have e1 : w2.cell? ⟨g + 1, 1, none⟩ = some (.int .i64 H) := HB2.out.cell 1
  have HLO := Lib.hid (long_any xA xn xc H w2)
  have HLV := Lib.hid (fun (w' : World) (hk : Kept S0 w2 w') => lives_any w' (HSP.out.kept0 hk))
  by_cases h5 : 500 < xn
  · rw [decide_eq_true h5] at HLO
    clear h5
    go_wp2_with (first | (go_at_call 9; refine HLO.out.mono ?_; rintro e w3 ⟨rfl, hk3⟩) | (go_at_call 11; refine (HLV.out w3 hk3).mono ?_; rintro e w4 ⟨rfl, hk4⟩))
    go_ret
    exact ⟨rfl, (HKA.out.then0 hk3).then0 hk4⟩
  rw [decide_eq_false h5] at HLO
  by_cases hh : 1073741824 < H
  · clear h5
    go_wp2_with (first | (go_at_call 9; refine HLO.out.mono ?_; rintro e w3 ⟨rfl, hk3⟩; have d1 : w3.cell? ⟨g + 1, 1, none⟩ = some (.int .i64 H) := kp0 hk3 e1) | (go_at_call 11; refine (HLV.out w3 hk3).mono ?_; rintro e w4 ⟨rfl, hk4⟩))
    go_ret
    exact ⟨rfl, (HKA.out.then0 hk3).then0 hk4⟩
  have HSO := Lib.hid (fun (w' : World) (hk : Kept S0 w2 w') => sound_any c p xA xn xc l H w' (HC.out.kept0 hk) (HL.out.kept0 hk) (HSP.out.kept0 hk) (by omega) (by omega))
  have hd : decide ((1073741824 : Int) < H) = false := decide_eq_false hh
  cases hhs : heightsP p l H with
  | none =>
    rw [hhs] at HSO
    have HHS := Lib.hid hhs
    have HH5 := Lib.hid h5
    have HHH := Lib.hid hh
    clear hhs h5 hh
    go_upto_region 2 with (first
      | (go_at_call 9; refine HLO.out.mono ?_; rintro e w3 ⟨rfl, hk3⟩; have d0 : w3.cell? ⟨g + 1, 0, none⟩ = some (.slice xA xn xc) := kp0 hk3 e0; have d1 : w3.cell? ⟨g + 1, 1, none⟩ = some (.int .i64 H) := kp0 hk3 e1; have hb13 := Lib.hid ((hk3.blk HB1.out (fun x => x)).lda))
      | (refine wpList_load_cells_g (by rfl) 30 _ rfl ⟨g, 0, none⟩ rfl c.arr _ hb13.out Tryd.underlying30 rfl (by kernel_rfl) ?_)
      | (go_at_call 10; refine (HSO.out w3 hk3).mono ?_; rintro e w4 ⟨rfl, hk4⟩; have hk24 := hk3.then0 hk4))
    go_wp2_with (go_at_call 11; refine (HLV.out w4 hk24).mono ?_; rintro e w5 ⟨rfl, hk5⟩)
    go_ret
    exact ⟨rfl, (HKA.out.then0 hk24).then0 hk5⟩
  | some hs =>
    rw [hhs] at HSO
    have HHS := Lib.hid hhs
    have HH5 := Lib.hid h5
    have HHH := Lib.hid hh
    clear hhs h5 hh
    go_upto_region 3 with (first
      | (go_at_call 9; refine HLO.out.mono ?_; rintro e w3 ⟨rfl, hk3⟩; have d0 : w3.cell? ⟨g + 1, 0, none⟩ = some (.slice xA xn xc) := kp0 hk3 e0; have d1 : w3.cell? ⟨g + 1, 1, none⟩ = some (.int .i64 H) := kp0 hk3 e1; have hb13 := Lib.hid ((hk3.blk HB1.out (fun x => x)).lda))
      | (refine wpList_load_cells_g (by rfl) 30 _ rfl ⟨g, 0, none⟩ rfl c.arr _ hb13.out Tryd.underlying30 rfl (by kernel_rfl) ?_)
      | (go_at_call 10; refine (HSO.out w3 hk3).mono ?_; rintro e w4 ⟨rfl, hk4⟩; have HK4 := Lib.hid (hk3.then0 hk4)))
    clear hd d0 d1 hb13 hk3 hk4 e0 e1 HSO HLO
    have e0 : w4.cell? ⟨g + 1, 0, none⟩ = some (.slice xA xn xc) := (HK4.out.blk HB2.out (fun x => x)).cell 0
    have e1 : w4.cell? ⟨g + 1, 1, none⟩ = some (.int .i64 H) := (HK4.out.blk HB2.out (fun x => x)).cell 1
    go_upto_region 4 with fail
    obtain ⟨mm, hmm⟩ : ∃ mm : Nat, IntKind.u64.wrap more = (mm : Int) := ⟨(more % 18446744073709551616).toNat, by rw [IntKind.wrap_u64]; omega⟩
    have HK5 := Lib.hid ((Kept.refl S0 w4).alloc (.cells #[.slice xA xn xc, .int .i64 H] 33))
    have HBY := Lib.hid (Blk.new w4 33 #[.slice xA xn xc, .int .i64 H])
    have HGY := Lib.hid (show g + 1 < w4.heap.size from (HK4.out.blk HB2.out (fun x => x)).lt)
    generalize (w4.alloc (.cells #[.slice xA xn xc, .int .i64 H] 33)) = w5 at *
    generalize hgy : w4.heap.size = gy at *
    clear e0 e1
    have e1 : w5.cell? ⟨g + 1, 1, none⟩ = some (.int .i64 H) := ((HK4.out.then0 HK5.out).blk HB2.out (fun x => x)).cell 1
    have f1 := HBY.out.frozen 1
    have y1 : w5.cell? ⟨gy, 1, none⟩ = some (.int .i64 H) := HBY.out.cell 1
    obtain ⟨H2, hH2⟩ : ∃ H2, H + (mm : Int) % 1000 = H2 := ⟨_, rfl⟩
    have uw : IntKind.i64.wrap (H + (mm : Int) % 1000) = H2 := (IntWalk.i64_in _ (by have := HHH.out; omega)).trans hH2
    have HH2 := Lib.hid (show H ≤ H2 ∧ H2 ≤ 1073742824 by have := HHH.out; omega)
    clear hH2
    go_upto_region 5 with fail
    clear hmm
    have HBY6 := Lib.hid (HBY.out.set_ 1 (.int .i64 H2))
    have HK6 := Lib.hid (show Kept S0 w4 (w5.setCell ⟨gy, 1, none⟩ (.int .i64 H2)) from HK5.out.setCell (.inr (Nat.le_of_eq hgy)) _)
    generalize (w5.setCell ⟨gy, 1, none⟩ (.int .i64 H2)) = w6 at *
    clear uw e1 f1 y1 HBY HK5
    have HK26 := Lib.hid (HK4.out.then0 HK6.out)
    have e0 : w6.cell? ⟨g + 1, 0, none⟩ = some (.slice xA xn xc) := (HK26.out.blk HB2.out (fun x => x)).cell 0
    have e1 : w6.cell? ⟨g + 1, 1, none⟩ = some (.int .i64 H) := (HK26.out.blk HB2.out (fun x => x)).cell 1
    go_upto_region 6 with fail
    have HK7 := Lib.hid ((Kept.refl S0 w6).alloc (.cells #[.slice xA xn xc, .int .i64 H] 33))
    have HBZ := Lib.hid (Blk.new w6 33 #[.slice xA xn xc, .int .i64 H])
    have HGZ := Lib.hid HBY6.out.lt
    generalize (w6.alloc (.cells #[.slice xA xn xc, .int .i64 H] 33)) = w7 at *
    generalize hgz : w6.heap.size = gz at *
    have f0 := HBZ.out.frozen 0
    have z0 : w7.cell? ⟨gz, 0, none⟩ = some (.slice xA xn xc) := HBZ.out.cell 0
    clear e0 e1
    go_upto_region 7 with fail
    have HBZ8 := Lib.hid (HBZ.out.set_ 0 (.slice none 0 0))
    have HK8 := Lib.hid (show Kept S0 w6 (w7.setCell ⟨gz, 0, none⟩ (.slice none 0 0)) from HK7.out.setCell (.inr (Nat.le_of_eq hgz)) _)
    generalize (w7.setCell ⟨gz, 0, none⟩ (.slice none 0 0)) = w8 at *
    clear f0 z0 HBZ HK7
    have HK28 := Lib.hid (HK26.out.then0 HK8.out)
    have e0 : w8.cell? ⟨g + 1, 0, none⟩ = some (.slice xA xn xc) := (HK28.out.blk HB2.out (fun x => x)).cell 0
    have z0 : w8.cell? ⟨gz, 0, none⟩ = some (.slice none 0 0) := HBZ8.out.cell 0
    have f0 := HBZ8.out.frozen 0
    obtain ⟨fs, hfl, hfi, hfs⟩ := HL.out.list HNIL.out
    have HFL := Lib.hid hfl
    have HFI := Lib.hid hfi
    have HFS := Lib.hid (hfs.kept0 HK28.out)
    clear hfl hfi hfs
    have HXN := Lib.hid (show xn ≤ 500 by have := HH5.out; omega)
    go_upto_region 8 with (at_builtin; refine wpList_push rfl _ _ 31 rfl w8.heap.size 46 (.agg flatZ) 25 112 Tryd.underlying31 Tryf.infoF rfl (by decide) (.slice none 0 0) 0 [] rfl (OwnL.nil _ _ _ _) xA xn xc _ rfl HFS.out (one_cells fs) (by have := HXN.out; unfold maxLen; omega) (by have := HXN.out; omega) (Nat.le_refl _) ?_; intro v9 w9 hp; obtain ⟨A9, c9, rfl, -⟩ := hp.own.out; have i0 := (hp.blk HBZ8.out (by simp [Value.ownBlock])).frozen 0; have j0 : w9.cell? ⟨gz, 0, none⟩ = some (.slice none 0 0) := (hp.blk HBZ8.out (by simp [Value.ownBlock])).cell 0)
    have HPO := Lib.hid (show OwnL w9 w8.heap.size 46 25 (.slice A9 xn c9) xn (fs.flatMap fun f => f.arr.toList) by have h := hp.own; rw [Nat.zero_add, List.nil_append] at h; exact h)
    have HB9 := Lib.hid ((hp.blk HBZ8.out (by simp [Value.ownBlock])).set_ 0 (.slice A9 xn c9))
    have HK29 := Lib.hid (hp.keep HK28.out HK28.out.size)
    have hgz2 : w2.heap.size ≤ gz := by rw [← hgz]; exact HK26.out.size
    have HGZ2 := Lib.hid hgz2
    have HNE := Lib.hid (show (Value.slice A9 xn c9).ownBlock ≠ some gz from HPO.out.ne_blk (hp.blk HBZ8.out (by simp [Value.ownBlock])) (by decide))
    have HK10 := Lib.hid (show Kept S0 w2 (w9.setCell ⟨gz, 0, none⟩ (.slice A9 xn c9)) from HK29.out.setCell (.inr hgz2) _)
    have HO10 := Lib.hid (show OwnL (w9.setCell ⟨gz, 0, none⟩ (.slice A9 xn c9)) w8.heap.size 46 25 (.slice A9 xn c9) xn (fs.flatMap fun f => f.arr.toList) from HPO.out.kept ((Kept.refl (S1 gz) w9).setCell (p := ⟨_, _, none⟩) (.inl rfl) _) (fun g e x => HNE.out (by rw [e, x])))
    have HB8 := Lib.hid (show w8.heap.size ≤ (w9.setCell ⟨gz, 0, none⟩ (.slice A9 xn c9)).heap.size from Nat.le_trans hp.kept.size (by simp [World.setCell]))
    have HBY10 := Lib.hid (show Blk (w9.setCell ⟨gz, 0, none⟩ (.slice A9 xn c9)) gy 33 (#[.slice xA xn xc, .int .i64 H].setIfInBounds 1 (.int .i64 H2)) from (hp.blk (HK8.out.blk HBY6.out (fun x => x)) (by simp [Value.ownBlock])).far (by have := HGZ.out; show gy ≠ gz; omega) _)
    generalize (w9.setCell ⟨gz, 0, none⟩ (.slice A9 xn c9)) = w10 at *
    have HK28S := Lib.hid HK28.out.size
    clear hp i0 j0 e0 z0 f0 HK29 HPO HK28 HK8 HK6 HK26 HBZ8 HBY6 HFS
    have z0 : w10.cell? ⟨gz, 0, none⟩ = some (.slice A9 xn c9) := HB9.out.cell 0
    have HKA11 := Lib.hid ((Kept.refl S0 w10).alloc (.cells flats2 46))
    have HO11 := Lib.hid (HO10.out.kept0 HKA11.out)
    have HB11 := Lib.hid (HKA11.out.blk HB9.out (fun x => x))
    have z1 : (w10.alloc (.cells flats2 46)).cell? ⟨gz, 0, none⟩ = some (.slice A9 xn c9) := HB11.out.cell 0
    have hsrc : SlL (w10.alloc (.cells flats2 46)) 25 (some ⟨w10.heap.size, 0, none⟩) 2 2 flats2.toList := SlL.of_blk (Blk.new w10 _ _) rfl (by decide)
    have HSRC := Lib.hid hsrc
    have H1C := Lib.hid (show ∀ u ∈ flats2.toList, u.oneCell' = true from by unfold flats2; simp [Value.oneCell'])
    have HB8L := Lib.hid (show w8.heap.size ≤ (w10.alloc (.cells flats2 46)).heap.size from Nat.le_trans HB8.out HKA11.out.size)
    clear hsrc
    have HFL2 := Lib.hid (show flats2 = #[Value.int IntKind.u16 0, Value.int IntKind.u32 0, Value.int IntKind.u32 0, Value.int IntKind.u64 0, Value.int IntKind.u8 0, Value.int IntKind.u8 0, Value.int IntKind.u8 0, Value.int IntKind.u8 0, Value.int IntKind.u8 0, Value.int IntKind.u8 0, Value.int IntKind.u8 0, Value.int IntKind.u8 0, Value.int IntKind.u8 0, Value.int IntKind.u8 0, Value.int IntKind.u8 0, Value.int IntKind.u8 0, Value.int IntKind.u8 0, Value.int IntKind.u8 0, Value.int IntKind.u8 0, Value.int IntKind.u8 0, Value.slice none 0 0, Value.int IntKind.i64 0, Value.int IntKind.i64 0, Value.int IntKind.i64 0, Value.slice none 0 0, Value.int IntKind.u16 15, Value.int IntKind.u32 0, Value.int IntKind.u32 0, Value.int IntKind.u64 0, Value.int IntKind.u8 0, Value.int IntKind.u8 0, Value.int IntKind.u8 0, Value.int IntKind.u8 0, Value.int IntKind.u8 0, Value.int IntKind.u8 0, Value.int IntKind.u8 0, Value.int IntKind.u8 0, Value.int IntKind.u8 0, Value.int IntKind.u8 0, Value.int IntKind.u8 0, Value.int IntKind.u8 0, Value.int IntKind.u8 0, Value.int IntKind.u8 0, Value.int IntKind.u8 0, Value.int IntKind.u8 0, Value.slice none 0 0, Value.int IntKind.i64 0, Value.int IntKind.i64 0, Value.int IntKind.i64 0, Value.slice none 0 0] from rfl)
    rw [HFL2.out] at HKA11 HO11 HB11 z1 HB8L
    have HNEY := Lib.hid (show (Value.slice A9 xn c9).ownBlock ≠ some gy from HO11.out.ne_blk (HKA11.out.blk HBY10.out (fun x => x)) (by decide))
    go_upto_region 9 with (at_builtin; refine wpList_push rfl _ _ 31 rfl w8.heap.size 46 (.agg flatZ) 25 112 Tryd.underlying31 Tryf.infoF rfl (by decide) (.slice A9 xn c9) xn _ rfl HO11.out (some ⟨w10.heap.size, 0, none⟩) 2 2 flats2.toList rfl HSRC.out H1C.out (by have := HXN.out; unfold maxLen; omega) (by have := HXN.out; omega) HB8L.out ?_; intro v12 w12 hp; obtain ⟨A12, c12, rfl, -⟩ := hp.own.out; have i0 := (hp.blk HB11.out HNE.out).frozen 0; have j0 : w12.cell? ⟨gz, 0, none⟩ = some (.slice A9 xn c9) := (hp.blk HB11.out HNE.out).cell 0)
    have hk13 : Kept S0 w2 (w12.setCell ⟨gz, 0, none⟩ (.slice A12 (xn + 2) c12)) := (hp.keep (HK10.out.then0 HKA11.out) HK28S.out).setCell (.inr HGZ2.out) _
    have HZ13 := Lib.hid ((hp.blk HB11.out HNE.out).set_ 0 (.slice A12 (xn + 2) c12))
    have HY13 := Lib.hid (show Blk (w12.setCell ⟨gz, 0, none⟩ (.slice A12 (xn + 2) c12)) gy 33 (#[.slice xA xn xc, .int .i64 H].setIfInBounds 1 (.int .i64 H2)) from (hp.blk (HKA11.out.blk HBY10.out (fun x => x)) HNEY.out).far (by have := HGZ.out; show gy ≠ gz; omega) _)
    have hown13 := hp.own.kept ((Kept.refl (S1 gz) w12).setCell (p := ⟨gz, 0, none⟩) (.inl rfl) (.slice A12 (xn + 2) c12)) (fun g e x => hp.own.ne_blk (hp.blk HB11.out HNE.out) (by decide) (by rw [e, x]))
    have HK13 := Lib.hid hk13
    have HL13 := Lib.hid (show SlFl (w12.setCell ⟨gz, 0, none⟩ (.slice A12 (xn + 2) c12)) A12 (xn + 2) c12 (l ++ [flp 0, flp 15]) from by
      obtain ⟨A', c', e, hsl⟩ := hown13.out
      cases e
      refine SlFl.of_list (fs := fs ++ [flc 0, flc 15]) (by rw [List.length_append, List.length_append, HFL.out]; rfl) (fun k f x hf hx => ?_) (by
        rw [List.flatMap_append]
        have h9 : flats2.toList = [flc 0, flc 15].flatMap fun f => f.arr.toList := by rw [flats2_eq]
        rw [← h9]
        exact hsl)
      by_cases hk : k < fs.length
      · rw [List.getElem?_append_left hk] at hf
        rw [List.getElem?_append_left (by have := HFL.out; omega)] at hx
        exact (HFI.out k f x hf hx).kept0 hk13
      · rw [List.getElem?_append_right (by omega)] at hf
        rw [List.getElem?_append_right (by have := HFL.out; omega), ← HFL.out] at hx
        obtain ⟨j, hj⟩ : ∃ j, k - fs.length = j := ⟨_, rfl⟩
        rw [hj] at hf hx
        match j, hf, hx with
        | 0, hf, hx => cases hf; cases hx; exact flc_is _ 0 (by decide)
        | 1, hf, hx => cases hf; cases hx; exact flc_is _ 15 (by decide)
        | j + 2, hf, _ => simp at hf)
    clear hown13 hp i0 j0 hk13 z1 z0 HKA11 HO11 HB11 HSRC H1C HB8L HFL2 HK10 HO10 HB8 HBY10 HB9 HNE HNEY HFI HFL
    generalize (w12.setCell ⟨gz, 0, none⟩ (.slice A12 (xn + 2) c12)) = w13 at *
    have HB113 := Lib.hid (HK13.out.blk HB1.out (fun x => x))
    have HB213 := Lib.hid (HK13.out.blk HB2.out (fun x => x))
    have e0 : w13.cell? ⟨g + 1, 0, none⟩ = some (.slice xA xn xc) := HB213.out.cell 0
    have e1 : w13.cell? ⟨g + 1, 1, none⟩ = some (.int .i64 H) := HB213.out.cell 1
    have hlen : hs.length = xn := (heightsP_len HHS.out).trans HLN.out.symm
    have HLEN := Lib.hid hlen
    have HHX := Lib.hid (show Calls Tryd.prog 12 #[.agg c.arr, .agg #[.slice xA xn xc, .int .i64 H]] w13 fun e w' => Kept S0 w13 w' ∧ ∃ hb, e = .returned (.tuple #[.slice (some ⟨hb, 0, none⟩) xn xn, .int .i64 0]) ∧ SlL w' 1 (some ⟨hb, 0, none⟩) xn xn (hs.map i64V) from
      (heights_any c p xA xn xc l H w13 (HC.out.kept0 HK13.out) (HL.out.kept0 HK13.out) (HSP.out.kept0 HK13.out) (by have := HHH.out; omega) (by have := HXN.out; omega)).mono (by
        rintro e w' ⟨hk, ⟨hn, _⟩ | ⟨hs', hb, hn, _, he, hsl⟩⟩
        · rw [HHS.out] at hn; cases hn
        · rw [HHS.out] at hn; cases hn; exact ⟨hk, hb, he, hsl⟩))
    have HPZ := Lib.hid (show heightsP p (l ++ [flp 0, flp 15]) H = some (hs ++ [-1, -1]) from heightsP_more HHS.out (Int.le_refl _) (by have := HXN.out; have := HLN.out; show _ + 2 ≤ _; omega) (by simp [namedP, flp, isBrP]))
    have HPY := Lib.hid (show (heightsP p l H2).isSome = true from by
      have h := heightsP_more (m := []) HHS.out HH2.out.1 (by have := HXN.out; have := HLN.out; show _ + 0 ≤ _; omega) rfl
      rw [List.append_nil] at h
      rw [h]
      rfl)
    have HHZ := Lib.hid (fun (w' : World) (hk : Kept S0 w13 w') => show Calls Tryd.prog 12 #[.agg c.arr, .agg #[.slice A12 (xn + 2) c12, .int .i64 H]] w' fun e w'' => Kept S0 w' w'' ∧ ∃ hb, e = .returned (.tuple #[.slice (some ⟨hb, 0, none⟩) (xn + 2) (xn + 2), .int .i64 0]) ∧ SlL w'' 1 (some ⟨hb, 0, none⟩) (xn + 2) (xn + 2) ((hs ++ [-1, -1]).map i64V) from
      (heights_any c p A12 (xn + 2) c12 (l ++ [flp 0, flp 15]) H w' (HC.out.kept0 (HK13.out.then0 hk)) (HL13.out.kept0 hk) (HSP.out.kept0 (HK13.out.then0 hk)) (by have := HHH.out; omega) (by have := HXN.out; omega)).mono (by
        rintro e w' ⟨hk, ⟨hn, _⟩ | ⟨hs', hb, hn, _, he, hsl⟩⟩
        · rw [HPZ.out] at hn; cases hn
        · rw [HPZ.out] at hn; cases hn; exact ⟨hk, hb, he, hsl⟩))
    have HSY := Lib.hid (fun (w' : World) (hk : Kept S0 w13 w') => sound_any c p xA xn xc l H2 w' (HC.out.kept0 (HK13.out.then0 hk)) (HL.out.kept0 (HK13.out.then0 hk)) (HSP.out.kept0 (HK13.out.then0 hk)) (by have := HH2.out.2; omega) (by have := HXN.out; omega))
    rw [HPY.out] at HSY
    clear HPY HPZ hlen
    go_upto_region 10 with (first
      | (refine wpList_load_row rfl 30 _ rfl g rfl 30 c.arr (0, 0) _ HB113.out Tryd.underlying30 rfl (by kernel_rfl) ?_)
      | (go_at_call 12; refine HHX.out.mono ?_; rintro e w14 ⟨hk14, h1b, rfl, hsl1⟩))
    have HK14 := Lib.hid hk14
    have HSL1 := Lib.hid hsl1
    have HB114 := Lib.hid (hk14.blk HB113.out (fun x => x))
    have z0 : w14.cell? ⟨gz, 0, none⟩ = some (.slice A12 (xn + 2) c12) := (hk14.blk HZ13.out (fun x => x)).cell 0
    have z1 : w14.cell? ⟨gz, 1, none⟩ = some (.int .i64 H) := (hk14.blk HZ13.out (fun x => x)).cell 1
    clear hk14 hsl1 e0 e1 HHX HB213
    have HHZ2 := Lib.hid (HHZ.out w14 HK14.out)
    clear HHZ
    go_upto_region 11 with (first
      | (refine wpList_load_row rfl 30 _ rfl g rfl 30 c.arr (0, 0) _ HB114.out Tryd.underlying30 rfl (by kernel_rfl) ?_)
      | (go_at_call 12; refine HHZ2.out.mono ?_; rintro e w15 ⟨hk15, h2b, rfl, hsl2⟩))
    have HK15 := Lib.hid (HK14.out.then0 hk15)
    have HSL1' := Lib.hid (HSL1.out.kept0 hk15)
    have HSL2 := Lib.hid hsl2
    have HB115 := Lib.hid (hk15.blk HB114.out (fun x => x))
    have y0 : w15.cell? ⟨gy, 0, none⟩ = some (.slice xA xn xc) := (HK15.out.blk HY13.out (fun x => x)).cell 0
    have y1 : w15.cell? ⟨gy, 1, none⟩ = some (.int .i64 H2) := (HK15.out.blk HY13.out (fun x => x)).cell 1
    clear hk15 hsl2 z0 z1 HHZ2
    have HSY2 := Lib.hid (HSY.out w15 HK15.out)
    clear HSY
    have u2 : IntKind.i64.wrap ((xn : Int) + 2) = (xn : Int) + 2 := IntWalk.i64_in _ (by have := HXN.out; omega)
    have HTK := Lib.hid (show ∀ w' : World, Kept S0 w15 w' → SlL w' 1 (some ⟨h2b, 0, none⟩) xn (xn + 2) (hs.map i64V) from fun w' hk => by
      have h := HSL2.out.kept0 hk
      refine ⟨by rw [List.length_map, HLEN.out, Nat.mul_one], fun hn => ?_, fun e => (by cases e), Nat.le_add_right _ _, h.cm⟩
      obtain ⟨b, o, e, hc⟩ := h.at (by omega)
      refine ⟨b, o, e, fun i hi => ?_⟩
      rw [Nat.mul_one] at hi
      have h1 : (hs.map i64V)[i]? = some (i64V (hs[i]'(by have := HLEN.out; omega))) := by rw [List.getElem?_map, List.getElem?_eq_getElem (by have := HLEN.out; omega)]; rfl
      rw [ofL_get h1]
      exact hc i _ (by rw [List.map_append, List.getElem?_append_left (by rw [List.length_map, HLEN.out]; exact hi)]; exact h1))
    have HM1 := Lib.hid (show ∀ w' : World, Kept S0 w15 w' → w'.cell? ⟨h2b, xn, none⟩ = some (.int .i64 (-1)) from fun w' hk => by
      obtain ⟨b, o, e, hc⟩ := (HSL2.out.kept0 hk).at (by omega)
      cases e
      have h9 := hc xn (i64V (-1)) (by
        rw [List.map_append, List.getElem?_append_right (by rw [List.length_map, HLEN.out]; exact Nat.le_refl _), List.length_map, HLEN.out, Nat.sub_self]
        rfl)
      rw [Nat.zero_add] at h9
      exact h9)
    clear HSL2
    go_wp2_with (first
      | (refine wpList_load_row rfl 30 _ rfl g rfl 30 c.arr (0, 0) _ HB115.out Tryd.underlying30 rfl (by kernel_rfl) ?_)
      | (go_at_call 10; refine HSY2.out.mono ?_; rintro e w16 ⟨rfl, hk16⟩; have HK16 := Lib.hid hk16; have HTK16 := Lib.hid (HTK.out w16 hk16); have HSL16 := Lib.hid (HSL1'.out.kept0 hk16); clear hk16)
      | (go_at_call 13; refine (ints_any (some ⟨h2b, 0, none⟩) (some ⟨h1b, 0, none⟩) xn xn (xn + 2) xn hs hs w16 HTK16.out HSL16.out (by have := HXN.out; omega)).mono ?_; rw [decide_eq_true (rfl : hs = hs)]; rintro e w17 ⟨rfl, hk17⟩; have HK17 := Lib.hid (HK16.out.then0 hk17); have m17 := HM1.out w17 HK17.out; clear hk17)
      | (go_at_call 11; refine (HLV.out w17 (HK13.out.then0 (HK15.out.then0 HK17.out))).mono ?_; rintro e w18 ⟨rfl, hk18⟩))
    go_ret
    exact ⟨rfl, HKA.out.then0 ((HK13.out.then0 (HK15.out.then0 HK17.out)).then0 hk18)⟩
end Go.Proofs.YtfmblalbcodpmaaDoor
namespace Go.Proofs.YtfmblalbcodpmaaDoor
open Go.ChangeShapes Go.WideShapes Go.ChangeAt Go.RowKit Go.Joins
theorem Tryd.own : ownKnob Tryd.prog.godebug = none := by kernel_rfl
theorem Tryd.laidOut : laidOutB Tryd.prog = true := by kernel_rfl
theorem bounds_u16 {x : Int} (h : (Lit.int .u16 x).wf = true) : 0 ≤ x ∧ x ≤ 65535 := by simpa [Lit.wf, IntKind.min, IntKind.max, IntKind.signed, IntKind.bits] using h
theorem bounds_u64 {x : Int} (h : (Lit.int .u64 x).wf = true) : 0 ≤ x ∧ x ≤ 18446744073709551615 := by simpa [Lit.wf, IntKind.min, IntKind.max, IntKind.signed, IntKind.bits] using h
end Go.Proofs.YtfmblalbcodpmaaDoor
namespace Go.Proofs.YtfmblalbcodpmaaDoor
open Go.ChangeShapes Go.WideShapes Go.ChangeAt Go.RowKit Go.Joins
section
variable {H : Type} {enc : TypeId × Value → H} {W : World} {ws : List Nat} {cs : List Value}
theorem rd_agg {t : TypeId} {fs : Array Field} {v : Value} {cs : Array Value} {l : List Value} (_ht : Tryd.prog.underlying t = some (.struct fs)) (hv : v = .agg cs) (h : v.cells.toList = l) : v = .agg l.toArray := by
  subst hv
  simp only [Value.cells] at h
  rw [← h]
end
end Go.Proofs.YtfmblalbcodpmaaDoor
namespace Go.Proofs.YtfmblalbcodpmaaDoor
open Go.ChangeShapes Go.WideShapes Go.ChangeAt Go.RowKit Go.Joins
section
variable {H : Type} {enc : TypeId × Value → H} {W : World} {ws : List Nat}
theorem rd_u16 {t : TypeId} {cs : List Value} (ht : Tryd.prog.underlying t = some (.int .u16)) (h : Rd enc W t cs ws) : ∃ n : Nat, cs = [.int .u16 (n : Int)] ∧ n < 65536 := by
  obtain ⟨n, e, hw⟩ := rd_int ht h
  have hb := bounds_u16 hw
  obtain ⟨m, rfl⟩ : ∃ m : Nat, n = (m : Int) := ⟨n.toNat, by omega⟩
  exact ⟨m, e, by omega⟩
theorem rd_u64 {t : TypeId} {cs : List Value} (ht : Tryd.prog.underlying t = some (.int .u64)) (h : Rd enc W t cs ws) : ∃ n : Nat, cs = [.int .u64 (n : Int)] ∧ n < 18446744073709551616 := by
  obtain ⟨n, e, hw⟩ := rd_int ht h
  have hb := bounds_u64 hw
  obtain ⟨m, rfl⟩ : ∃ m : Nat, n = (m : Int) := ⟨n.toNat, by omega⟩
  exact ⟨m, e, by omega⟩
theorem rd_b16 {cs : List Value} (h : Rd enc W 43 cs ws) : ∃ v : Nat → UInt8, cs = [.int .u8 ((v 0).toNat : Int), .int .u8 ((v 1).toNat : Int), .int .u8 ((v 2).toNat : Int), .int .u8 ((v 3).toNat : Int), .int .u8 ((v 4).toNat : Int), .int .u8 ((v 5).toNat : Int), .int .u8 ((v 6).toNat : Int), .int .u8 ((v 7).toNat : Int), .int .u8 ((v 8).toNat : Int), .int .u8 ((v 9).toNat : Int), .int .u8 ((v 10).toNat : Int), .int .u8 ((v 11).toNat : Int), .int .u8 ((v 12).toNat : Int), .int .u8 ((v 13).toNat : Int), .int .u8 ((v 14).toNat : Int), .int .u8 ((v 15).toNat : Int)] := by
  obtain ⟨k, x, h, _⟩ := h
  obtain ⟨xs, m, _, _, hl, hxl, hf⟩ := DataW.trod_array Tryd.underlying43 h
  rw [show Tryd.prog.cellsOf 43 = 16 from by kernel_rfl] at hl
  have hel : ∀ i, i < 16 → ∃ b : UInt8, cs[i]? = some (.int .u8 (b.toNat : Int)) := fun i hi => by
    have h1 := hf i hi
    rw [show Tryd.prog.cellsOf 5 = 1 from by kernel_rfl, Nat.mul_one] at h1
    have h2 : i < xs.length := by omega
    rw [List.getElem?_eq_getElem h2] at h1
    obtain ⟨n, e, _, hw⟩ := DataW.trod_int Tryd.underlying5 h1
    have hb := bounds_u8 hw
    obtain ⟨m, rfl⟩ : ∃ m : Nat, n = (m : Int) := ⟨n.toNat, by omega⟩
    refine ⟨UInt8.ofNat m, ?_⟩
    have h3 := congrArg (·[0]?) e
    simp only [List.getElem?_take, List.getElem?_drop, Nat.lt_one_iff, if_true, Nat.add_zero, List.getElem?_cons_zero] at h3
    rw [h3, UInt8.toNat_ofNat_of_lt' (by have : UInt8.size = 256 := rfl; omega)]
  have each : ∀ i, ∃ b : UInt8, i < 16 → cs[i]? = some (.int .u8 (b.toNat : Int)) := fun i => by
    by_cases hi : i < 16
    · obtain ⟨b, hb⟩ := hel i hi
      exact ⟨b, fun _ => hb⟩
    · exact ⟨0, fun h => absurd h hi⟩
  obtain ⟨v, hv⟩ := Classical.axiomOfChoice each
  refine ⟨v, List.ext_getElem? fun i => ?_⟩
  by_cases hi : i < 16
  · rw [hv i hi]
    match i, hi with
    | 0, _ => rfl
    | 1, _ => rfl
    | 2, _ => rfl
    | 3, _ => rfl
    | 4, _ => rfl
    | 5, _ => rfl
    | 6, _ => rfl
    | 7, _ => rfl
    | 8, _ => rfl
    | 9, _ => rfl
    | 10, _ => rfl
    | 11, _ => rfl
    | 12, _ => rfl
    | 13, _ => rfl
    | 14, _ => rfl
    | 15, _ => rfl
    | _ + 16, h => exact absurd h (by omega)
  · rw [List.getElem?_eq_none (by omega), List.getElem?_eq_none (by simp; omega)]
set_option maxRecDepth 100000 in
set_option maxHeartbeats 1600000 in
theorem dec_GOAL {cs : List Value} (h : Rd enc W 113 cs ws) : ∃ (t : Int) (k : Int) (h : Int), cs = [.int .i64 t, .int .i64 k, .int .i64 h] ∧ (-9223372036854775808 ≤ t ∧ t ≤ 9223372036854775807) ∧ (-9223372036854775808 ≤ k ∧ k ≤ 9223372036854775807) ∧ (-9223372036854775808 ≤ h ∧ h ≤ 9223372036854775807) := by
  obtain ⟨hl, hf⟩ := rd_struct (n := 3) Tryd.underlying113 (by kernel_rfl) h
  match cs, hl with
  | [k0, k1, k2], _ =>
    have g0 : Rd enc W 3 [k0] ws := by
      have h : Rd enc W 3 (([k0, k1, k2].drop 0).take (Tryd.prog.cellsOf 3)) ws := hf 0 _ rfl
      rw [show Tryd.prog.cellsOf 3 = 1 from by kernel_rfl] at h
      exact h
    obtain ⟨t, e0, p0⟩ := rd_int Tryd.underlying3 g0
    have g1 : Rd enc W 3 [k1] ws := by
      have h : Rd enc W 3 (([k0, k1, k2].drop 1).take (Tryd.prog.cellsOf 3)) ws := hf 1 _ rfl
      rw [show Tryd.prog.cellsOf 3 = 1 from by kernel_rfl] at h
      exact h
    obtain ⟨k, e1, p1⟩ := rd_int Tryd.underlying3 g1
    have g2 : Rd enc W 3 [k2] ws := by
      have h : Rd enc W 3 (([k0, k1, k2].drop 2).take (Tryd.prog.cellsOf 3)) ws := hf 2 _ rfl
      rw [show Tryd.prog.cellsOf 3 = 1 from by kernel_rfl] at h
      exact h
    obtain ⟨h, e2, p2⟩ := rd_int Tryd.underlying3 g2
    simp only [List.cons.injEq, and_true] at e0 e1 e2
    refine ⟨t, k, h, ?_, bounds_i64 p0, bounds_i64 p1, bounds_i64 p2⟩
    simp [e0, e1, e2]
set_option maxRecDepth 100000 in
set_option maxHeartbeats 1600000 in
theorem dec_FLAT {cs : List Value} (h : Rd enc W 46 cs ws) : ∃ (op : Nat) (a : Nat) (b : Nat) (n : Nat) (v : Nat → UInt8) (T_A : Option Addr) (T_n T_c : Nat) (dst : Int) (keep : Int) (height : Int) (L_A : Option Addr) (L_n L_c : Nat), cs = [.int .u16 (op : Int), .int .u32 (a : Int), .int .u32 (b : Int), .int .u64 (n : Int), .int .u8 ((v 0).toNat : Int), .int .u8 ((v 1).toNat : Int), .int .u8 ((v 2).toNat : Int), .int .u8 ((v 3).toNat : Int), .int .u8 ((v 4).toNat : Int), .int .u8 ((v 5).toNat : Int), .int .u8 ((v 6).toNat : Int), .int .u8 ((v 7).toNat : Int), .int .u8 ((v 8).toNat : Int), .int .u8 ((v 9).toNat : Int), .int .u8 ((v 10).toNat : Int), .int .u8 ((v 11).toNat : Int), .int .u8 ((v 12).toNat : Int), .int .u8 ((v 13).toNat : Int), .int .u8 ((v 14).toNat : Int), .int .u8 ((v 15).toNat : Int), .slice T_A T_n T_c, .int .i64 dst, .int .i64 keep, .int .i64 height, .slice L_A L_n L_c] ∧ op < 65536 ∧ a < 4294967296 ∧ b < 4294967296 ∧ n < 18446744073709551616 ∧ Rd enc W 26 [.slice T_A T_n T_c] ws ∧ (-9223372036854775808 ≤ dst ∧ dst ≤ 9223372036854775807) ∧ (-9223372036854775808 ≤ keep ∧ keep ≤ 9223372036854775807) ∧ (-9223372036854775808 ≤ height ∧ height ≤ 9223372036854775807) ∧ Rd enc W 44 [.slice L_A L_n L_c] ws := by
  obtain ⟨hl, hf⟩ := rd_struct (n := 25) Tryd.underlying46 (by kernel_rfl) h
  match cs, hl with
  | [k0, k1, k2, k3, k4, k5, k6, k7, k8, k9, k10, k11, k12, k13, k14, k15, k16, k17, k18, k19, k20, k21, k22, k23, k24], _ =>
    have g0 : Rd enc W 40 [k0] ws := by
      have h : Rd enc W 40 (([k0, k1, k2, k3, k4, k5, k6, k7, k8, k9, k10, k11, k12, k13, k14, k15, k16, k17, k18, k19, k20, k21, k22, k23, k24].drop 0).take (Tryd.prog.cellsOf 40)) ws := hf 0 _ rfl
      rw [show Tryd.prog.cellsOf 40 = 1 from by kernel_rfl] at h
      exact h
    obtain ⟨op, e0, p0⟩ := rd_u16 Tryd.underlying40 g0
    have g1 : Rd enc W 41 [k1] ws := by
      have h : Rd enc W 41 (([k0, k1, k2, k3, k4, k5, k6, k7, k8, k9, k10, k11, k12, k13, k14, k15, k16, k17, k18, k19, k20, k21, k22, k23, k24].drop 1).take (Tryd.prog.cellsOf 41)) ws := hf 1 _ rfl
      rw [show Tryd.prog.cellsOf 41 = 1 from by kernel_rfl] at h
      exact h
    obtain ⟨a, e1, p1⟩ := rd_u32 Tryd.underlying41 g1
    have g2 : Rd enc W 41 [k2] ws := by
      have h : Rd enc W 41 (([k0, k1, k2, k3, k4, k5, k6, k7, k8, k9, k10, k11, k12, k13, k14, k15, k16, k17, k18, k19, k20, k21, k22, k23, k24].drop 2).take (Tryd.prog.cellsOf 41)) ws := hf 2 _ rfl
      rw [show Tryd.prog.cellsOf 41 = 1 from by kernel_rfl] at h
      exact h
    obtain ⟨b, e2, p2⟩ := rd_u32 Tryd.underlying41 g2
    have g3 : Rd enc W 42 [k3] ws := by
      have h : Rd enc W 42 (([k0, k1, k2, k3, k4, k5, k6, k7, k8, k9, k10, k11, k12, k13, k14, k15, k16, k17, k18, k19, k20, k21, k22, k23, k24].drop 3).take (Tryd.prog.cellsOf 42)) ws := hf 3 _ rfl
      rw [show Tryd.prog.cellsOf 42 = 1 from by kernel_rfl] at h
      exact h
    obtain ⟨n, e3, p3⟩ := rd_u64 Tryd.underlying42 g3
    have g4 : Rd enc W 43 [k4, k5, k6, k7, k8, k9, k10, k11, k12, k13, k14, k15, k16, k17, k18, k19] ws := by
      have h : Rd enc W 43 (([k0, k1, k2, k3, k4, k5, k6, k7, k8, k9, k10, k11, k12, k13, k14, k15, k16, k17, k18, k19, k20, k21, k22, k23, k24].drop 4).take (Tryd.prog.cellsOf 43)) ws := hf 4 _ rfl
      rw [show Tryd.prog.cellsOf 43 = 16 from by kernel_rfl] at h
      exact h
    obtain ⟨v, e4⟩ := rd_b16 g4
    have g5 : Rd enc W 26 [k20] ws := by
      have h : Rd enc W 26 (([k0, k1, k2, k3, k4, k5, k6, k7, k8, k9, k10, k11, k12, k13, k14, k15, k16, k17, k18, k19, k20, k21, k22, k23, k24].drop 20).take (Tryd.prog.cellsOf 26)) ws := hf 5 _ rfl
      rw [show Tryd.prog.cellsOf 26 = 1 from by kernel_rfl] at h
      exact h
    obtain ⟨T_A, T_n, T_c, e5⟩ := rd_slice_shape Tryd.underlying26 g5
    rw [e5] at g5
    have g6 : Rd enc W 3 [k21] ws := by
      have h : Rd enc W 3 (([k0, k1, k2, k3, k4, k5, k6, k7, k8, k9, k10, k11, k12, k13, k14, k15, k16, k17, k18, k19, k20, k21, k22, k23, k24].drop 21).take (Tryd.prog.cellsOf 3)) ws := hf 6 _ rfl
      rw [show Tryd.prog.cellsOf 3 = 1 from by kernel_rfl] at h
      exact h
    obtain ⟨dst, e6, p6⟩ := rd_int Tryd.underlying3 g6
    have g7 : Rd enc W 3 [k22] ws := by
      have h : Rd enc W 3 (([k0, k1, k2, k3, k4, k5, k6, k7, k8, k9, k10, k11, k12, k13, k14, k15, k16, k17, k18, k19, k20, k21, k22, k23, k24].drop 22).take (Tryd.prog.cellsOf 3)) ws := hf 7 _ rfl
      rw [show Tryd.prog.cellsOf 3 = 1 from by kernel_rfl] at h
      exact h
    obtain ⟨keep, e7, p7⟩ := rd_int Tryd.underlying3 g7
    have g8 : Rd enc W 3 [k23] ws := by
      have h : Rd enc W 3 (([k0, k1, k2, k3, k4, k5, k6, k7, k8, k9, k10, k11, k12, k13, k14, k15, k16, k17, k18, k19, k20, k21, k22, k23, k24].drop 23).take (Tryd.prog.cellsOf 3)) ws := hf 8 _ rfl
      rw [show Tryd.prog.cellsOf 3 = 1 from by kernel_rfl] at h
      exact h
    obtain ⟨height, e8, p8⟩ := rd_int Tryd.underlying3 g8
    have g9 : Rd enc W 44 [k24] ws := by
      have h : Rd enc W 44 (([k0, k1, k2, k3, k4, k5, k6, k7, k8, k9, k10, k11, k12, k13, k14, k15, k16, k17, k18, k19, k20, k21, k22, k23, k24].drop 24).take (Tryd.prog.cellsOf 44)) ws := hf 9 _ rfl
      rw [show Tryd.prog.cellsOf 44 = 1 from by kernel_rfl] at h
      exact h
    obtain ⟨L_A, L_n, L_c, e9⟩ := rd_slice_shape Tryd.underlying44 g9
    rw [e9] at g9
    simp only [List.cons.injEq, and_true] at e0 e1 e2 e3 e4 e5 e6 e7 e8 e9
    refine ⟨op, a, b, n, v, T_A, T_n, T_c, dst, keep, height, L_A, L_n, L_c, ?_, p0, p1, p2, p3, g5, bounds_i64 p6, bounds_i64 p7, bounds_i64 p8, g9⟩
    simp [e0, e1, e2, e3, e4, e5, e6, e7, e8, e9]
set_option maxRecDepth 100000 in
set_option maxHeartbeats 1600000 in
theorem dec_CODE {cs : List Value} (h : Rd enc W 33 cs ws) : ∃ (l_A : Option Addr) (l_n l_c : Nat) (h : Int), cs = [.slice l_A l_n l_c, .int .i64 h] ∧ Rd enc W 31 [.slice l_A l_n l_c] ws ∧ (-9223372036854775808 ≤ h ∧ h ≤ 9223372036854775807) := by
  obtain ⟨hl, hf⟩ := rd_struct (n := 2) Tryd.underlying33 (by kernel_rfl) h
  match cs, hl with
  | [k0, k1], _ =>
    have g0 : Rd enc W 31 [k0] ws := by
      have h : Rd enc W 31 (([k0, k1].drop 0).take (Tryd.prog.cellsOf 31)) ws := hf 0 _ rfl
      rw [show Tryd.prog.cellsOf 31 = 1 from by kernel_rfl] at h
      exact h
    obtain ⟨l_A, l_n, l_c, e0⟩ := rd_slice_shape Tryd.underlying31 g0
    rw [e0] at g0
    have g1 : Rd enc W 3 [k1] ws := by
      have h : Rd enc W 3 (([k0, k1].drop 1).take (Tryd.prog.cellsOf 3)) ws := hf 1 _ rfl
      rw [show Tryd.prog.cellsOf 3 = 1 from by kernel_rfl] at h
      exact h
    obtain ⟨h, e1, p1⟩ := rd_int Tryd.underlying3 g1
    simp only [List.cons.injEq, and_true] at e0 e1
    refine ⟨l_A, l_n, l_c, h, ?_, g0, bounds_i64 p1⟩
    simp [e0, e1]
end
end Go.Proofs.YtfmblalbcodpmaaDoor
namespace Go.Proofs.YtfmblalbcodpmaaDoor
open Go.ChangeShapes Go.WideShapes Go.ChangeAt Go.RowKit Go.Joins
section
variable {H : Type} {enc : TypeId × Value → H} {W : World} {ws : List Nat}
theorem flats_rd {A : Option Addr} {n c : Nat} (h : Rd enc W 31 [.slice A n c] ws) (hws : ∀ q ∈ ws, q ≤ reachBytes) : ∃ l : List FlP, SlFl W A n c l ∧ (A = none → n = 0 ∧ c = 0) := by
  have hs := rd_slice Tryd.underlying31 (sz := 25) (bytes := 112) (by kernel_rfl) (by kernel_rfl) (by decide) h
  have hz : A = none → n = 0 ∧ c = 0 := fun e => by have h1 := hs.z e; have h2 := hs.le; omega
  by_cases h0 : n = 0
  · subst h0
    exact ⟨[], ⟨rfl, hs.le, hs.cm, fun h => absurd h (Nat.lt_irrefl 0)⟩, hz⟩
  obtain ⟨b, o, rfl, he⟩ := hs.el (by omega)
  obtain ⟨l, hl, hq⟩ := list_of (Q := fun i (x : FlP) => ∃ f : FC, CellsAt W b (o + i * 25) f.arr ∧ FlIs W f x) n (fun i hi => by
    obtain ⟨cs, _, hc, hr⟩ := he i hi
    obtain ⟨op, a, b', n', v, T_A, T_n, T_c, dst, keep, height, L_A, L_n, L_c, rfl, p1, p2, p3, p4, p5, p6, p7, p8, p9⟩ := dec_FLAT hr
    obtain ⟨T, t1, t2, t3, t4⟩ := u8s_rd p5 hws
    have s := rd_slice Tryd.underlying44 (sz := 3) (bytes := 24) (by kernel_rfl) (by kernel_rfl) (by decide) p9
    obtain ⟨L, l1, l2, _⟩ := rd_list (fun x : Int × Int × Int => goalC x) (fun _ => rfl) (fun _ => True) (fun cs hc => by
      obtain ⟨x1, x2, x3, e, _⟩ := dec_GOAL hc
      exact ⟨(x1, x2, x3), e, trivial⟩) s
    have w := s.wt hws
    refine ⟨⟨op, a, b', n', v, T, dst, keep, height, L⟩, ⟨op, a, b', n', v, T_A, T_n, T_c, dst, keep, height, L_A, L_n, L_c⟩, fun j hj => ?_, ⟨rfl, rfl, rfl, rfl, rfl, rfl, rfl, rfl, t2, l2, p1, p2, p3, p4, by show T_n ≤ _; omega, by show L_n ≤ _; omega⟩⟩
    exact (hc j hj).trans (Array.getElem?_toList ..))
  exact ⟨l, ⟨hl.symm, hs.le, hs.cm, fun _ => ⟨b, o, rfl, fun k x hx => hq k x hx⟩⟩, hz⟩
end
end Go.Proofs.YtfmblalbcodpmaaDoor
namespace Go.Proofs.YtfmblalbcodpmaaDoor
open Go.ChangeShapes Go.WideShapes Go.ChangeAt Go.RowKit Go.Joins
theorem flatMore_witness (os : Os) {H : Type} (enc : TypeId × Value → H) : (OpenSpec.ofChange Rows.flatMoreSpec).preRow enc Tryd.prog Tryd.f3 Rows.flatMoreRow.domain false Rows.flatMoreRow.laid ((laidWorld os).forCall (fun _ _ => 0) ⟨#[], #[.agg #[.slice none 0 0, .slice none 0 0, .slice none 0 0, .slice none 0 0, .slice none 0 0, .slice none 0 0, .int .i64 0, .slice none 0 0, .slice none 0 0, .slice none 0 0, .int .i64 0], .agg #[.slice none 0 0, .int .i64 0], .int .i64 0, .slice none 0 0], []⟩).memory #[.agg #[.slice none 0 0, .slice none 0 0, .slice none 0 0, .slice none 0 0, .slice none 0 0, .slice none 0 0, .int .i64 0, .slice none 0 0, .slice none 0 0, .slice none 0 0, .int .i64 0], .agg #[.slice none 0 0, .int .i64 0], .int .i64 0, .slice none 0 0] := by
  have hw : (DataW.whole enc Tryd.prog ((laidWorld os).forCall (fun _ _ => 0) ⟨#[], #[.agg #[.slice none 0 0, .slice none 0 0, .slice none 0 0, .slice none 0 0, .slice none 0 0, .slice none 0 0, .int .i64 0, .slice none 0 0, .slice none 0 0, .slice none 0 0, .int .i64 0], .agg #[.slice none 0 0, .int .i64 0], .int .i64 0, .slice none 0 0], []⟩).memory Tryd.f3.params.toList Rows.flatMoreSpec.vars false #[.agg #[.slice none 0 0, .slice none 0 0, .slice none 0 0, .slice none 0 0, .slice none 0 0, .slice none 0 0, .int .i64 0, .slice none 0 0, .slice none 0 0, .slice none 0 0, .int .i64 0], .agg #[.slice none 0 0, .int .i64 0], .int .i64 0, .slice none 0 0].toList 8).map (fun x => (x.1, x.2.1)) = some ([.agg [.nil, .nil, .nil, .nil, .nil, .nil, .lit (.int .i64 0), .nil, .nil, .nil, .lit (.int .i64 0)], .agg [.nil, .lit (.int .i64 0)], .lit (.int .i64 0), .nil], []) := by kernel_rfl
  obtain ⟨⟨x1, x2, x3⟩, hx, hx1⟩ := Option.map_eq_some_iff.1 hw
  simp only [Prod.mk.injEq] at hx1
  obtain ⟨rfl, rfl⟩ := hx1
  exact OpenSpec.preRow_of_cond 8 hx (by kernel_rfl) (fun k hk => by cases hk) (by kernel_rfl) (laid_met os _)
set_option maxRecDepth 100000 in
set_option maxHeartbeats 3200000 in
theorem flatMore_lifted (os : Os) (started : os.Started) (H : Type) (enc : TypeId × Value → H) (F : Stop.Interp) :
    ReturnsInHanded {} Tryd.checked os 3 .any ((OpenSpec.ofChange Rows.flatMoreSpec).preRow enc Tryd.prog Tryd.f3 Rows.flatMoreRow.domain false Rows.flatMoreRow.laid) (((OpenSpec.ofChange Rows.flatMoreSpec).at F).post enc Tryd.prog Tryd.f3 false true false false) := by
  refine returnsInHanded_of_row (C := Tryd.checked) (s := (OpenSpec.ofChange Rows.flatMoreSpec)) Tryd.own started (by kernel_rfl) Tryd.func3
    (witness_row_atRef (enc := enc) (C := Tryd.checked) false (laidWorld os) #[.agg #[.slice none 0 0, .slice none 0 0, .slice none 0 0, .slice none 0 0, .slice none 0 0, .slice none 0 0, .int .i64 0, .slice none 0 0, .slice none 0 0, .slice none 0 0, .int .i64 0], .agg #[.slice none 0 0, .int .i64 0], .int .i64 0, .slice none 0 0] rfl (by kernel_rfl) (by kernel_rfl) (by kernel_rfl) (flatMore_witness os enc)) ?_
  intro W base args ds gs before hval0 hW _ hcond hsz0 hL _ _
  have hsz : (DataW.weightsEach Tryd.prog (Tryd.f3.params.toList ++ Rows.flatMoreSpec.plain.varTypes Tryd.prog) (ds ++ gs)).all (· ≤ reachBytes) = true := hsz0
  clear hsz0
  have hval : ∀ (j : Nat) t v, Tryd.f3.params[j]? = some t → args[j]? = some v → Value.okWide Tryd.prog W .any base t v := hval0
  have hW' : DataW.Whole enc Tryd.prog Tryd.f3.params.toList Rows.flatMoreSpec.vars false W args.toList ds gs before := hW
  obtain ⟨p, q, hA0, hV, rfl, hfz, hnd⟩ := hW
  have hA : DataW.TrodAll enc Tryd.prog W 0 (fun _ => true) true Tryd.f3.params.toList args.toList ds p := hA0
  rw [Tryd.params3] at hA hval hsz
  have hrd := fun j t v => rd_params (ts2 := Rows.flatMoreSpec.plain.varTypes Tryd.prog) (gs := gs) hA j t v
  have hws : ∀ q ∈ DataW.weightsEach Tryd.prog (_ ++ Rows.flatMoreSpec.plain.varTypes Tryd.prog) (ds ++ gs), q ≤ reachBytes := fun q hq => of_decide_eq_true (List.all_eq_true.1 hsz q hq)
  have hsp : SpTab W := sp_tab hL
  obtain ⟨v0, vs0, d0, ds0, p0, q0, hargs0, rfl, rfl, h0, r0⟩ := trodAll_cons hA
  obtain ⟨v1, vs1, d1, ds1, p1, q1, hargs1, rfl, rfl, h1, r1⟩ := trodAll_cons r0
  obtain ⟨v2, vs2, d2, ds2, p2, q2, hargs2, rfl, rfl, h2, r2⟩ := trodAll_cons r1
  obtain ⟨v3, vs3, d3, ds3, p3, q3, hargs3, rfl, rfl, h3, r3⟩ := trodAll_cons r2
  obtain ⟨hargsN, rfl, rfl⟩ := trodAll_nil r3
  obtain rfl : args = #[v0, v1, v2, v3] := by
    apply Array.toList_inj.1
    rw [hargs0, hargs1, hargs2, hargs3, hargsN]
  obtain ⟨rfl, rfl⟩ := trodVars_none hV
  have g0 := hrd 0 30 v0 rfl rfl
  obtain ⟨cs0, hcs0, _⟩ := okWide_struct Tryd.underlying30 (hval 0 30 v0 rfl rfl)
  obtain ⟨c, cp, e0, hc, okc⟩ := ctx_rd g0 hws
  obtain rfl := rd_agg Tryd.underlying30 hcs0 e0
  have g1 := hrd 1 33 v1 rfl rfl
  obtain ⟨cs1, hcs1, _⟩ := okWide_struct Tryd.underlying33 (hval 1 33 v1 rfl rfl)
  obtain ⟨x_A, x_n, x_c, x_h, e1, gl1, gh1⟩ := dec_CODE g1
  obtain rfl := rd_agg Tryd.underlying33 hcs1 e1
  have g2 := hrd 2 3 v2 rfl rfl
  obtain ⟨more, rfl, rfl, rfl, w2⟩ := open_int Tryd.underlying3 (hval 2 3 v2 rfl rfl) h2
  have b2 := bounds_i64 w2
  have g3 := hrd 3 34 v3 rfl rfl
  obtain ⟨bh_A, bh_n, bh_c, hv3⟩ := okWide_slice Tryd.underlying34 (hval 3 34 v3 rfl rfl)
  subst hv3
  obtain ⟨l, hl, hnil⟩ := flats_rd gl1 hws
  refine (more_any c cp x_A x_n x_c l x_h more (.slice bh_A bh_n bh_c) W hc hl hnil hsp gh1.1).mono fun e W' ⟨he, hk⟩ => ?_
  subst he
  refine ⟨_, rfl, post_law Tryd.laidOut ?_ hW' rfl Tryd.underlying4 (by kernel_rfl) rfl hk.below0⟩
  rw [Tryd.params3]
  intro t ht
  simp at ht
  rcases ht with rfl | rfl | rfl | rfl <;> exact ⟨by kernel_rfl, of_decide_eq_true (by kernel_rfl)⟩
theorem flatMore_said : Rows.FlatMoreSaid :=
  OpenClaim.holds_of_cond 3 Tryd.f3 rfl rfl rfl rfl rfl rfl rfl ⟨rfl, rfl, rfl, rfl, rfl⟩ rfl rfl rfl rfl rfl (by kernel_rfl) Tryd.func3 (by kernel_rfl)
    (of_decide_eq_true (by kernel_rfl)) (by unfold Func.isWrapper; rw [if_neg (of_decide_eq_false (by kernel_rfl))]; exact ⟨rfl, rfl⟩)
    (fun os started H enc _ F => by rw [OpenClaim.pre_eq_preRow]; exact flatMore_lifted os started H enc F)
theorem flatMore_plain (f : FuncId) (fn : Func) (hf : Tryd.pinned.checked.prog.funcNamed "jacquard/jacquardlaw18.FlatMore" = some f) (hfn : Tryd.pinned.checked.prog.funcs[f]? = some fn) :
    false = Tryd.pinned.checked.prog.looks [] ∧ ∀ (j : Nat) t, fn.params[j]? = some t → Tryd.pinned.checked.prog.wantsStandIn t = false := by
  obtain rfl : f = 3 := Option.some.inj ((show Tryd.prog.funcNamed "jacquard/jacquardlaw18.FlatMore" = some 3 by kernel_rfl).symm.trans hf) |>.symm
  obtain rfl : fn = Tryd.f3 := (Option.some.inj (Tryd.func3.symm.trans hfn)).symm
  refine ⟨by kernel_rfl, fun j t ht => ?_⟩
  rw [Tryd.params3] at ht
  have hm := Array.mem_of_getElem? ht
  simp at hm
  rcases hm with rfl | rfl | rfl | rfl <;> (show Tryd.prog.wantsStandIn _ = false; kernel_rfl)
theorem flatMore_holds : Rows.FlatMoreCardSaid :=
  Claim7.holds_tied_plain_at .later [] _ _ _ _ flatMore_said (fun _ h => by cases h) (by kernel_rfl) (fun _ h => by cases h) flatMore_row_tie rfl ⟨rfl, rfl⟩ (by kernel_rfl) rfl flatMore_plain (by kernel_rfl)
end Go.Proofs.YtfmblalbcodpmaaDoor
