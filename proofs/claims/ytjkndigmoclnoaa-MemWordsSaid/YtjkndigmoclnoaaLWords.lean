/- The walk of the statement MemWords. No condition. -/
import Derived.Test.YtjkndigmoclnoaaLCopies
import Derived.Test.YtjkndigmoclnoaaMemI
namespace Go.Proofs.Ytjkndigmoclnoaa
open Go.RowKit

theorem pow5 (k : Nat) : ∃ z : Nat, wrap64 (2 ^ (k % 5)) = (z : Int) ∧ wordB (z : Int) = true ∧ 1 ≤ z ∧ z ≤ 16 := by
  have h : k % 5 = 0 ∨ k % 5 = 1 ∨ k % 5 = 2 ∨ k % 5 = 3 ∨ k % 5 = 4 := by omega
  rcases h with h | h | h | h | h <;> rw [h]
  · exact ⟨1, by rw [show (2 : Int) ^ 0 = 1 from rfl, IntWalk.wrap64_in _ (by omega)]; rfl, by decide, by omega, by omega⟩
  · exact ⟨2, by rw [show (2 : Int) ^ 1 = 2 from rfl, IntWalk.wrap64_in _ (by omega)]; rfl, by decide, by omega, by omega⟩
  · exact ⟨4, by rw [show (2 : Int) ^ 2 = 4 from rfl, IntWalk.wrap64_in _ (by omega)]; rfl, by decide, by omega, by omega⟩
  · exact ⟨8, by rw [show (2 : Int) ^ 3 = 8 from rfl, IntWalk.wrap64_in _ (by omega)]; rfl, by decide, by omega, by omega⟩
  · exact ⟨16, by rw [show (2 : Int) ^ 4 = 16 from rfl, IntWalk.wrap64_in _ (by omega)]; rfl, by decide, by omega, by omega⟩

/-- What stands in 'now' behind j rounds. -/
def backF (f : Nat → UInt8) (x z lo hi j : Nat) : Nat → UInt8 := fun i => if x ≤ i ∧ i < x + j then f i else storeF f x z lo hi i

set_option maxHeartbeats 3200000 in
set_option maxRecDepth 100000 in
theorem words_any (x k lo hi : Nat) (A : Option Addr) (n c : Nat) (v : Nat → UInt8) (w : World) (hx : x ≤ 65535) (hk : k ≤ 255) (hlo : lo ≤ 18446744073709551615) (hhi : hi ≤ 18446744073709551615) (hA : Sl w A n (byteV v)) (hnc : n ≤ c) (hn : n ≤ 140737488351232) :
    Calls Try.prog 5 #[.int .u16 (x : Int), .int .u8 (k : Int), .agg #[.int .u64 (lo : Int), .int .u64 (hi : Int)], .slice A n c] w fun e w' => e = .returned (.bool true) ∧ Kept S0 w w' := by
  have hab := hA.slb
  obtain ⟨m, hm⟩ : ∃ m : Nat, m = min n 65536 := ⟨_, rfl⟩
  have hmn : m ≤ n := by omega
  have hm6 : m ≤ 65536 := by omega
  have hmin : (if (65536 : Int) < (n : Int) then (65536 : Int) else (n : Int)) = (m : Int) := by split <;> omega
  obtain ⟨D1, r1, d1⟩ := run_cut_h (P := Try.prog) 36 5 Try.underlying36 Try.size5 A n c .i64 (m : Int) m rfl (by omega)
  have HD1 := Lib.hid d1
  clear d1 hm
  obtain ⟨z, hz, hzw, hz1, hz16⟩ := pow5 k
  have HZ := Lib.hid hzw
  clear hzw
  have hkv := Blk.new w 47 #[.int .u64 (lo : Int), .int .u64 (hi : Int)]
  have hk0 : Kept S0 w (w.alloc (.cells #[.int .u64 (lo : Int), .int .u64 (hi : Int)] 47)) := (Kept.refl S0 w).alloc _
  go_enter Try.func5, Try.ntmps5
  go_wp2_with fail
  refine (one_any _).mono ?_
  rintro e w1 ⟨pb, bb, rfl, hm1, hp1, hp2, hk1'⟩
  have hp1 : w.heap.size < pb := Nat.lt_of_lt_of_le hkv.lt hp1
  have hp2 : w.heap.size < bb := Nat.lt_of_lt_of_le hkv.lt hp2
  have hkv1 := hk1'.blk hkv (fun x => x)
  have hk1 := hk0.then0 hk1'
  clear hkv hk0 hk1'
  have hs1 : Sl w1 D1 m (byteV v) := by rw [HD1.out]; exact ((hab.kept hk1 (Nat.le_refl _) (fun _ h => h.elim)).sl).cut0 hmn hnc
  go_wp2_with fail
  refine (write_in 0 D1 m c v hm1 (by omega) hs1 (by omega)).mono ?_
  rintro e w2 ⟨rfl, hm2, hk2⟩
  have hk3 : Kept S0 w w2 := hk1.trans_ hk2 (fun i hi => .inr (by cases hi; exact Nat.le_of_lt hp2))
  generalize putF zeroF 0 m v = f at hm2
  clear hs1 hm1 hk1 r1 hmin hab hA HD1
  go_wp2_with fail
  refine (read_in 0 65536 hm2 (by omega) (by omega)).mono ?_
  rintro e w3 ⟨g1, q1, rfl, ho1, hk4⟩
  simp only [Nat.zero_add] at ho1
  have hg1 := (ho1.lt g1 rfl).1
  have hwas := Was.of ho1
  have hkv3 := hk4.blk (hk2.blk hkv1 (fun e => by have e' : w.heap.size = bb := e; omega)) (fun x => x)
  have l0 := hkv3.cell 0
  have l1 := hkv3.cell 1
  have hm3 := hm2.kept0 hk4
  have hk5 := hk3.then0 hk4
  have hw3 : w.heap.size ≤ w3.heap.size := hk5.size
  have hbg : bb < g1 := Nat.lt_of_lt_of_le hm2.row.lt hg1
  have v1 : IntKind.u64.wrap (x : Int) = (x : Int) := IntWalk.u64_in _ (by omega)
  have u1 : IntKind.i64.wrap (x : Int) = (x : Int) := IntWalk.i64_in _ (by omega)
  clear ho1 hk4 hm2 hk3 hg1 hk2 hkv1
  by_cases hout : x + z ≤ 65536
  · have hob : decide ((x : Int) + (z : Int) ≤ 65536) = true := decide_eq_true (by omega)
    go_wp2_with fail
    refine (store_in x z lo hi hm3 (by omega) hout HZ.out).mono ?_
    rintro e w4 ⟨rfl, hm4, hk6⟩
    have hk7 : Kept S0 w w4 := hk5.trans_ hk6 (fun i hi => .inr (by cases hi; exact Nat.le_of_lt hp2))
    have hw4 := hwas.kept hk6 (fun e => by have e' : g1 = bb := e; omega)
    have hkv4 := hk6.blk hkv3 (fun e => by have e' : w.heap.size = bb := e; omega)
    have hg4 : g1 < w4.heap.size := let ⟨_, h1, _⟩ := hw4.row; h1.lt
    clear hm3 hwas hk6 hk5 hkv3 l0 l1
    go_wp2_with fail
    refine (read_in 0 65536 hm4 (by omega) (by omega)).mono ?_
    rintro e w5 ⟨g2, q2, rfl, ho2, hk8⟩
    simp only [Nat.zero_add] at ho2
    have hg2 := (ho2.lt g2 rfl).1
    have hn5 := Was.of ho2
    have hw5 := hw4.kept hk8 (fun x => x)
    have hm5 := hm4.kept0 hk8
    have hk9 := hk7.then0 hk8
    have hkv5 := hk8.blk hkv4 (fun x => x)
    have hw5s : w.heap.size ≤ w4.heap.size := hk7.size
    have hpb2 : pb < g2 := Nat.lt_of_lt_of_le hm4.obj.lt hg2
    have hbb2 : bb < g2 := Nat.lt_of_lt_of_le hm4.row.lt hg2
    clear ho2 hk8 hm4 hw4 hk7 hkv4
    go_wp2_with fail
    go_loopw [15] (fun i wr => ∃ j : Nat, j ≤ z ∧ i = .int .i64 (j : Int) ∧ Was wr g2 q2 (backF f x z lo hi j) ∧ Kept (S1 g2) w5 wr) (fun i _ => z - (intOf i).toNat)
    case atStart => exact ⟨0, by omega, rfl, ⟨let ⟨fr, h1, h2⟩ := hn5.row; ⟨fr, h1, fun i hi => (h2 i hi).trans (by show Value.int .u8 _ = Value.int .u8 _; unfold backF; rw [if_neg (by omega)])⟩, hn5.lo, hn5.hi⟩, Kept.refl _ _⟩
    case round =>
      obtain ⟨j, hj, rfl, hnr, hkr⟩ := hrel
      have hwr := hw5.kept hkr (fun e => by have e' : g1 = g2 := e; omega)
      have hkvr := hkr.blk hkv5 (fun e => by have e' : w.heap.size = g2 := e; omega)
      by_cases hlt : j < z
      · have l0 := hkvr.cell 0
        have l1 := hkvr.cell 1
        obtain ⟨fr, hr1, hr2⟩ := hnr.row
        obtain ⟨fs, hs1, hs2⟩ := hwr.row
        have L1 := hnr.lo
        have L2 := hwr.lo
        have dn := (hr1.cell (i := x + j) (by omega)).trans (congrArg some (hr2 (x + j) (by omega)))
        have zn := hr1.frozen (x + j)
        have dw := (hs1.cell (i := x + j) (by omega)).trans (congrArg some (hs2 (x + j) (by omega)))
        have ebk : backF f x z lo hi j (x + j) = byteOf lo hi j := by
          unfold backF storeF
          rw [if_neg (by omega), if_pos (by omega), show x + j - x = j by omega]
        simp only [byteV, ebk] at dn dw
        clear ebk
        have hnext : Was (wr.setCell ⟨g2, x + j, none⟩ (.int .u8 ((f (x + j)).toNat : Int))) g2 q2 (backF f x z lo hi (j + 1)) :=
          ⟨⟨_, hr1.set (x + j) _, fun i hi => by
            by_cases e : i = x + j
            · rw [if_pos e, e]; show Value.int .u8 _ = Value.int .u8 _; unfold backF; rw [if_pos (by omega)]
            · rw [if_neg e, hr2 i hi]; show Value.int .u8 _ = Value.int .u8 _; unfold backF
              by_cases e2 : x ≤ i ∧ i < x + j
              · rw [if_pos e2, if_pos (by omega)]
              · rw [if_neg e2, if_neg (by omega)]⟩, hnr.lo, hnr.hi⟩
        have HN := Lib.hid hnext
        have hk2 : Kept (S1 g2) w5 (wr.setCell ⟨g2, x + j, none⟩ (.int .u8 ((f (x + j)).toNat : Int))) := hkr.setCell (p := ⟨g2, x + j, none⟩) (.inl rfl) _
        have HK := Lib.hid hk2
        clear hnext hk2 hr1 hr2 hs1 hs2 hnr hwr hkvr hkr
        by_cases h8 : j < 8
        · have hcmp : (((byteOf lo hi j).toNat : Int) != (lo : Int) / 2 ^ (8 * (j % 8)) % 256) = false := by rw [byteOf_lo (hi := hi) rfl h8]; simp
          go_wp2_with fail
          go_roundw
          case rel => exact ⟨j + 1, by omega, by go_num, HN.out, HK.out⟩
          case measure => simp [intOf]; omega
        · have hcmp : (((byteOf lo hi j).toNat : Int) != (hi : Int) / 2 ^ (8 * (j % 8)) % 256) = false := by rw [show j % 8 = j - 8 by omega, byteOf_hi (lo := lo) (by omega : 8 ≤ j)]; simp
          go_wp2_with fail
          go_roundw
          case rel => exact ⟨j + 1, by omega, by go_num, HN.out, HK.out⟩
          case measure => simp [intOf]; omega
      · obtain rfl : j = z := by omega
        have hmr := hm5.kept hkr (fun e => by have e' : pb = g2 := e; omega) (fun e => by have e' : bb = g2 := e; omega)
        have hkw : Kept S0 w wr := hk9.trans_ hkr (fun i hi => .inr (by cases hi; omega))
        obtain ⟨fr, hr1, hr2⟩ := hnr.row
        obtain ⟨fs, hs1, hs2⟩ := hwr.row
        have hws := hkw.size
        clear hm5 hk9 hkv5 hkvr hw5 hn5 hkr
        go_wp2_with fail
        refine (load_in x j hmr (by omega) hout HZ.out).mono ?_
        rintro e w6 ⟨rfl, hk10⟩
        have hul := ldLo_mod (storeF f x j lo hi) x j hz1
        generalize ldLo (storeF f x j lo hi) x j = ul at hul ⊢
        generalize ldHi (storeF f x j lo hi) x j = uh
        have HU := Lib.hid hul
        have hB6 := Blk.new w6 47 #[.int .u64 (ul : Int), .int .u64 (uh : Int)]
        have ha6 : Kept S0 w6 (w6.alloc (.cells #[.int .u64 (ul : Int), .int .u64 (uh : Int)] 47)) := (Kept.refl S0 w6).alloc _
        have hk11 := hk10.then0 ha6
        have hm6 := hmr.kept0 hk11
        have hw6 := hkw.then0 hk11
        have hr6 := hk11.row hr1 (fun x => x)
        have hs6 := hk11.row hs1 (fun x => x)
        have L1 := hnr.lo
        have L2 := hwr.lo
        have L3 := hnr.hi
        have L4 := hwr.hi
        clear hmr hkw hk10 hr1 hs1 hul ha6 hk11 hnr hwr
        go_wp2_with fail
        refine (load_in x 1 hm6 (by omega) (by omega) (by decide)).mono ?_
        rintro e w7 ⟨rfl, hk12⟩
        have hol := ldLo_mod (storeF f x j lo hi) x 1 (by omega)
        generalize ldLo (storeF f x j lo hi) x 1 = ol at hol ⊢
        generalize ldHi (storeF f x j lo hi) x 1 = oh
        have hB7 := Blk.new w7 47 #[.int .u64 (ol : Int), .int .u64 (oh : Int)]
        have ha7 : Kept S0 w7 (w7.alloc (.cells #[.int .u64 (ol : Int), .int .u64 (oh : Int)] 47)) := (Kept.refl S0 w7).alloc _
        have hk13 := hk12.then0 ha7
        have hw7 := hw6.then0 hk13
        have hB6' := hk13.blk hB6 (fun x => x)
        have hsm := same_any (some ⟨g1, 0, none⟩) (some ⟨g2, 0, none⟩) 65536 65536 q1 q2 f f _ ((Sl.of_row (hk13.row hs6 (fun x => x)) L2).congr hs2) ((Sl.of_row (hk13.row hr6 (fun x => x)) L1).congr (fun i hi => (hr2 i hi).trans (by
          show Value.int .u8 _ = Value.int .u8 _
          unfold backF storeF
          by_cases h : x ≤ i ∧ i < x + j
          · rw [if_pos h]
          · rw [if_neg h, if_neg h]))) (by omega) (by omega)
        rw [sameB_true (fun i _ => rfl)] at hsm
        have SM := Lib.hid hsm
        have HE := Lib.hid (show ul % 256 = ol % 256 by rw [HU.out, hol])
        clear hsm hol hm6 hw6 hr6 hs6 hr2 hs2 hk12 hk13 hB6 ha7 L1 L2 L3 L4 HU
        go_wp2_with fail
        refine SM.out.mono ?_
        rintro e w8 ⟨rfl, hk14⟩
        have hB6s := hk14.blk hB6' (fun x => x)
        have hB7s := hk14.blk hB7 (fun x => x)
        have y0 := hB6s.cell 0
        have y1 := hB6s.cell 1
        have z0 := hB7s.cell 0
        have z1 := hB7s.cell 1
        have he : (((ul : Int) % 256) == ((ol : Int) % 256)) = true := beq_iff_eq.2 (by have := HE.out; omega)
        go_wp2_with fail
        refine (lives_any _).mono ?_
        rintro e w9 ⟨rfl, hk15⟩
        go_wp2_with fail
        go_ret
        exact ⟨rfl, (hw7.then0 hk14).then0 hk15⟩
  · have hob : decide ((x : Int) + (z : Int) ≤ 65536) = false := decide_eq_false (by omega)
    go_wp2_with fail
    refine (store_out (x : Int) (z : Int) lo hi hm3 (by omega) (by omega) (by omega) HZ.out (decide_eq_false (by omega))).mono ?_
    rintro e w4 ⟨rfl, hk6⟩
    have hm4 := hm3.kept0 hk6
    have hw4 := hwas.kept hk6 (fun x => x)
    have hk7 := hk5.then0 hk6
    clear hm3 hwas hk5 hk6 hkv3 l0 l1
    go_wp2_with fail
    refine (read_in 0 65536 hm4 (by omega) (by omega)).mono ?_
    rintro e w5 ⟨g2, q2, rfl, ho2, hk8⟩
    simp only [Nat.zero_add] at ho2
    have hn5 := Was.of ho2
    have hw5 := hw4.kept hk8 (fun x => x)
    have hk9 := hk7.then0 hk8
    have hsm := same_any _ _ 65536 65536 q1 q2 _ _ w5 hw5.sl hn5.sl (by omega) (by omega)
    rw [sameB_true (fun i _ => rfl)] at hsm
    have SM := Lib.hid hsm
    clear hsm ho2 hk8
    go_wp2_with fail
    refine SM.out.mono ?_
    rintro e w9 ⟨rfl, hk15⟩
    go_wp2_with fail
    refine (lives_any _).mono ?_
    rintro e w10 ⟨rfl, hk16⟩
    go_wp2_with fail
    go_ret
    exact ⟨rfl, (hk9.then0 hk15).then0 hk16⟩
end Go.Proofs.Ytjkndigmoclnoaa
