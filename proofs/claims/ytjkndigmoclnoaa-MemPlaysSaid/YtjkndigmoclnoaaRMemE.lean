/- Contracts of Wide, Left, Spoil; a memory's Type. No condition. -/
import Derived.Test.YtjkndigmoclnoaaRMemB
import Derived.Test.YtjkndigmoclnoaaSame
import Derived.Test.YtjkndigmoclnoaaBase4
import Derived.Laws.BitsAllLaws
namespace Go.Proofs.Ytjkndigmoclnoaa
open Go.RowKit

theorem Try.sizeU8 : (Try.prog.info? 5).map (·.size) = some 1 := by kernel_rfl

/-- A list with three bytes behind it. -/
def wideF (n : Nat) (v : Nat → UInt8) : Nat → UInt8 := fun i => if i < n then v i else 7

structure WideAt (w : World) (g n : Nat) (v : Nat → UInt8) : Prop where
  row : w.rowIs g 5 (n + 3) (byteV (wideF n v))

theorem WideAt.sl {w : World} {g n : Nat} {v : Nat → UInt8} (h : WideAt w g n v) : Sl w (some ⟨g, 0, none⟩) n (byteV v) := (Sl.of_row h.row (by omega)).congr (fun i hi => by unfold byteV wideF; rw [if_pos hi])
theorem WideAt.kept {w w' : World} {g n : Nat} {v : Nat → UInt8} {S : Nat → Prop} (h : WideAt w g n v) (hk : Kept S w w') (hs : ¬ S g) : WideAt w' g n v := ⟨hk.row h.row hs⟩

set_option maxHeartbeats 1600000 in
theorem wide_any (A : Option Addr) (n c : Nat) (v : Nat → UInt8) (w : World) (hA : Sl w A n (byteV v)) (hn : n ≤ 140737488351232) :
    Calls Try.prog 34 #[.slice A n c] w fun e w' => ∃ g, e = .returned (.slice (some ⟨g, 0, none⟩) n (n + 3)) ∧ WideAt w' g n v ∧ w.heap.size ≤ g ∧ Kept S0 w w' := by
  obtain ⟨N, hN⟩ : ∃ N : Nat, N = n + 3 := ⟨_, rfl⟩
  have e1 : IntKind.i64.wrap ((n : Int) + 3) = (N : Int) := by rw [IntWalk.i64_in _ (by omega)]; omega
  have hmk := fun W => run_make_row' (P := Try.prog) 36 5 (.int .u8 0) 1 Try.underlying36 Try.info5 rfl .i64 .i64 N (by omega) (by omega) W
  have hka : Kept S0 w (w.alloc (.cells (madeCells #[.int .u8 0] N) 5)) := (Kept.refl S0 w).alloc _
  have hrow := World.rowIs_made w (.int .u8 0) N 5
  have hsl := (hA.slb.kept hka (Nat.le_refl _) (fun _ h => h.elim)).sl
  have HKA := Lib.hid hka
  have HN := Lib.hid hN
  have hmin : Nat.min n N = n := Nat.min_eq_left (by omega)
  clear hN hA hka
  go_enter Try.func34, Try.ntmps34
  go_wp2_with ((with_reducible refine gate (N := 12) rfl ?_); refine wpList_copy_rows rfl (.tmp 10) (.tmp 11) 36 36 rfl 5 Try.underlying36 Try.sizeU8 (some ⟨w.heap.size, 0, none⟩) A _ _ n c rfl rfl w.heap.size 5 N 0 n (fun _ => .int .u8 0) (byteV v) hmin hrow (fun _ => rfl) hsl (.inr (by have := HN.out; omega)) (fun _ _ => rfl) ?_)
  intro w' hcp
  have HR := Lib.hid (show w'.rowIs w.heap.size 5 N (byteV (fun i => if i < n then v i else 0)) from hcp.row.congr (fun i _ => by
    show (if 0 ≤ i ∧ i < 0 + n then Value.int .u8 ((v (i - 0)).toNat : Int) else Value.int .u8 0) = Value.int .u8 (((if i < n then v i else 0) : UInt8).toNat : Int)
    by_cases e : i < n
    · rw [if_pos (by omega), if_pos e]; rfl
    · rw [if_neg (by omega), if_neg e]; rfl))
  have HK := Lib.hid (show Kept S0 w w' from HKA.out.trans_ hcp.kept (fun i e => .inr (by have e' : i = w.heap.size := e; omega)))
  clear hcp hrow hsl hmk hmin
  go_wp2_with fail
  obtain ⟨g, hg⟩ : ∃ g, g = w.heap.size := ⟨_, rfl⟩
  rw [← hg] at HR ⊢
  have HG := Lib.hid hg
  clear hg
  go_loopw [5] (fun i wr => ∃ j : Nat, i = .int .i64 (j : Int) ∧ n ≤ j ∧ j ≤ N ∧ wr.rowIs g 5 N (byteV (fun i => if i < n then v i else if i < j then 7 else 0)) ∧ Kept S0 w wr) (fun i _ => N - (intOf i).toNat)
  case atStart => exact ⟨n, rfl, Nat.le_refl _, by have := HN.out; omega, HR.out.congr (fun i _ => by
    show Value.int .u8 (((if i < n then v i else 0) : UInt8).toNat : Int) = Value.int .u8 (((if i < n then v i else if i < n then 7 else 0) : UInt8).toNat : Int)
    by_cases e : i < n
    · rw [if_pos e, if_pos e]
    · rw [if_neg e, if_neg e, if_neg e]), HK.out⟩
  case round =>
    clear HR HK
    obtain ⟨j, rfl, hj1, hj2, hr, hk⟩ := hrel
    by_cases hlt : j < N
    · have hji : (j : Int) < (N : Int) := by omega
      have uj : IntKind.i64.wrap ((j : Int) + 1) = (j : Int) + 1 := IntWalk.i64_in _ (by have := HN.out; omega)
      have b0 := hr.cell hlt
      have z0 := hr.frozen j
      have hnB : n ≤ 140737488351232 := by omega
      have HR := Lib.hid (hr.set j (.int .u8 7))
      have HK := Lib.hid (hk.setCell (p := ⟨g, j, none⟩) (.inr (by have := HG.out; show w.heap.size ≤ g; omega)) (.int .u8 7))
      clear hr hk
      go_wp2_with fail
      go_roundw
      case rel =>
        refine ⟨j + 1, by go_num, by omega, by omega, HR.out.congr (fun i _ => ?_), HK.out⟩
        show (if i = j then Value.int .u8 7 else Value.int .u8 (((if i < n then v i else if i < j then 7 else 0) : UInt8).toNat : Int)) = Value.int .u8 (((if i < n then v i else if i < j + 1 then 7 else 0) : UInt8).toNat : Int)
        by_cases e : i = j
        · subst e; rw [if_pos rfl, if_neg (by omega), if_pos (by omega)]; rfl
        · rw [if_neg e]
          by_cases e2 : i < n
          · rw [if_pos e2, if_pos e2]
          · rw [if_neg e2, if_neg e2]
            by_cases e3 : i < j
            · rw [if_pos e3, if_pos (by omega)]
            · rw [if_neg e3, if_neg (by omega)]
      case measure => simp [intOf]; omega
    · obtain rfl : j = N := by omega
      obtain ⟨D1, r1, d1⟩ := run_cutS_h (P := Try.prog) 36 5 1 Try.underlying36 Try.sizeU8 (some ⟨g, 0, none⟩) j j .i64 (n : Int) n rfl (by omega)
      have hD : D1 = some ⟨g, 0, none⟩ := by
        rw [d1]
        split
        · rfl
        · simp [Addr.add_lit]
      subst hD
      clear d1
      have HR := Lib.hid hr
      have HK := Lib.hid hk
      clear hr hk
      go_wp2_with fail
      go_ret
      have e := HN.out
      subst e
      refine ⟨g, rfl, ⟨HR.out.congr (fun i hi => ?_)⟩, by have := HG.out; omega, HK.out⟩
      show Value.int .u8 (((if i < n then v i else if i < n + 3 then 7 else 0) : UInt8).toNat : Int) = Value.int .u8 (((if i < n then v i else 7) : UInt8).toNat : Int)
      by_cases e : i < n
      · rw [if_pos e, if_pos e]
      · rw [if_neg e, if_neg e, if_pos hi]

set_option maxHeartbeats 1600000 in
theorem left_any (g n : Nat) (B : Option Addr) (c : Nat) (v : Nat → UInt8) (w : World) (hW : WideAt w g n v) (hB : Sl w B n (byteV v)) (hn : n ≤ 140737488351232) :
    Calls Try.prog 40 #[.slice (some ⟨g, 0, none⟩) n (n + 3), .slice B n c] w fun e w' => e = .returned (.bool true) ∧ Kept S0 w w' := by
  have HS := Lib.hid (same_any (some ⟨g, 0, none⟩) B n n (n + 3) c v v w hW.sl hB (by omega) (by omega))
  have e1 : IntKind.i64.wrap ((n : Int) + 3) = (n : Int) + 3 := IntWalk.i64_in _ (by omega)
  have e2 : IntKind.i64.wrap ((n : Int) + 1) = (n : Int) + 1 := IntWalk.i64_in _ (by omega)
  have e3 : IntKind.i64.wrap ((n : Int) + 2) = (n : Int) + 2 := IntWalk.i64_in _ (by omega)
  have hlt : decide ((n : Int) + 3 < (n : Int) + 3) = false := decide_eq_false (by omega)
  obtain ⟨D1, r1, d1⟩ := run_cutS_h (P := Try.prog) 36 5 1 Try.underlying36 Try.sizeU8 (some ⟨g, 0, none⟩) n (n + 3) .i64 ((n : Int) + 3) (n + 3) (by omega) (by omega)
  have hD : D1 = some ⟨g, 0, none⟩ := by
    rw [d1]
    split
    · rfl
    · simp [Addr.add_lit]
  subst hD
  have HW := Lib.hid hW
  have hst : sameB n n v v = true := sameB_true (fun _ _ => rfl)
  have HST := Lib.hid hst
  clear d1 hW hB hst
  go_enter Try.func40, Try.ntmps40
  go_wp2_with fail
  refine HS.out.mono ?_
  rintro e w1 ⟨rfl, hk⟩
  rw [HST.out]
  have hr := hk.row HW.out.row (fun x => x)
  have b0 : w1.cell? ⟨g, n, none⟩ = some (.int .u8 7) := by
    rw [hr.cell (i := n) (by omega)]; show some (Value.int .u8 (((if n < n then v n else 7) : UInt8).toNat : Int)) = _; rw [if_neg (by omega)]; rfl
  have b1 : w1.cell? ⟨g, n + 1, none⟩ = some (.int .u8 7) := by
    rw [hr.cell (i := n + 1) (by omega)]; show some (Value.int .u8 (((if n + 1 < n then v (n + 1) else 7) : UInt8).toNat : Int)) = _; rw [if_neg (by omega)]; rfl
  have b2 : w1.cell? ⟨g, n + 2, none⟩ = some (.int .u8 7) := by
    rw [hr.cell (i := n + 2) (by omega)]; show some (Value.int .u8 (((if n + 2 < n then v (n + 2) else 7) : UInt8).toNat : Int)) = _; rw [if_neg (by omega)]; rfl
  have HK := Lib.hid hk
  clear hk hr
  go_wp2_with fail
  go_ret
  exact ⟨rfl, HK.out⟩

set_option maxHeartbeats 1600000 in
theorem spoil_any (B g n cap : Nat) (x : UInt8) (F : Nat → Value) (w : World) (hO : Own w B 5 1 IsByte (.slice (some ⟨g, 0, none⟩) n cap) n F) :
    Calls Try.prog 38 #[.slice (some ⟨g, 0, none⟩) n cap, .int .u8 (x.toNat : Int)] w fun e w' => e = .returned (.tuple #[]) ∧ Kept (S1 g) w w' := by
  rcases hO with ⟨e, _⟩ | ⟨g2, cap2, fr, he, hbg, hnc, hcm, hrow, hF, hQ⟩
  · cases e
  cases he
  simp only [Nat.mul_one] at hrow hQ
  obtain ⟨D1, r1, d1⟩ := run_cutS_h (P := Try.prog) 36 5 1 Try.underlying36 Try.sizeU8 (some ⟨g, 0, none⟩) n cap .i64 (cap : Int) cap rfl (by omega)
  have hD : D1 = some ⟨g, 0, none⟩ := by
    rw [d1]
    split
    · rfl
    · simp [Addr.add_lit]
  subst hD
  have HROW := Lib.hid hrow
  have HQ := Lib.hid hQ
  have hcm' : cap ≤ 9223372036854775807 := by unfold maxLen at hcm; omega
  clear d1 hF hrow hQ
  go_enter Try.func38, Try.ntmps38
  go_wp2_with fail
  go_loopw [4] (fun i wr => ∃ (j : Nat) (fr : Nat → Value), i = .int .i64 (j : Int) ∧ j ≤ cap ∧ wr.rowIs g 5 cap fr ∧ (∀ i, i < cap → IsByte (fr i)) ∧ Kept (S1 g) w wr) (fun i _ => cap - (intOf i).toNat)
  case atStart => exact ⟨0, _, rfl, by omega, HROW.out, HQ.out, Kept.refl _ _⟩
  case round =>
    clear HROW HQ
    obtain ⟨j, fr, rfl, hj, hr, hQ, hk⟩ := hrel
    by_cases hlt : j < cap
    · have hji : (j : Int) < (cap : Int) := by omega
      have uj : IntKind.i64.wrap ((j : Int) + 1) = (j : Int) + 1 := IntWalk.i64_in _ (by omega)
      obtain ⟨y, hy⟩ := hQ j hlt
      have b0 := hr.cell hlt
      rw [hy] at b0
      have z0 := hr.frozen j
      obtain ⟨q, hq⟩ : ∃ q : Nat, bits BinOp.xor IntKind.u8 (y.toNat : Int) (x.toNat : Int) = (q : Int) ∧ q ≤ 255 := ⟨y.toNat ^^^ x.toNat, u8_xor_nat _ _ (UInt8.toNat_lt _) (UInt8.toNat_lt _), by have := Nat.xor_lt_two_pow (n := 8) (UInt8.toNat_lt y) (UInt8.toNat_lt x); omega⟩
      have HR := Lib.hid (hr.set j (.int .u8 (q : Int)))
      have HQ := Lib.hid hQ
      have HK := Lib.hid (hk.setCell (p := ⟨g, j, none⟩) (.inl rfl) (.int .u8 (q : Int)))
      have hq1 := hq.1
      have hq2 := hq.2
      clear hr hk hQ hq hy
      go_wp2_with fail
      go_roundw
      case rel =>
        refine ⟨j + 1, _, by go_num, by omega, HR.out, fun i hi => ?_, HK.out⟩
        by_cases e : i = j
        · exact ⟨UInt8.ofNat q, by simp only [e, if_true]; rw [UInt8.toNat_ofNat']; congr 1; omega⟩
        · simp only [e, if_false]; exact HQ.out i hi
      case measure => simp [intOf]; omega
    · obtain rfl : j = cap := by omega
      go_wp2_with fail
      go_end0
      exact ⟨rfl, hk⟩

section
variable {w : World} {pb bb n : Nat} {mn mx : Int} {bd : Bool} {f : Nat → UInt8}

set_option maxHeartbeats 1600000 in
theorem type_made (hm : MemAt w pb bb n mn mx bd f) (hN : n ≤ 1048576) :
    Calls Try.prog 27 #[.pointer (some ⟨pb, 0, none⟩)] w fun e w' => e = .returned (.agg #[.int .u32 ((n / 65536 : Nat) : Int), .int .u32 mx, .bool bd]) ∧ Kept S0 w w' := by
  have hka : Kept S0 w (w.alloc (.cells #[.int .u32 0, .int .u32 0, .bool false] 24)) := (Kept.refl S0 w).alloc _
  have hm1 := hm.kept0 hka
  have c0 := hm1.c0
  have c1 := hm1.c1
  have c2 := hm1.c2
  have c3 := hm1.c3
  have hkb : Kept S0 w ((w.alloc (.cells #[.int .u32 0, .int .u32 0, .bool false] 24)).alloc (.cells #[.int .u32 mn, .int .u32 mx, .bool bd] 24)) := hka.alloc _
  have HM2 := Lib.hid (hm.kept0 hkb)
  clear hm hm1
  go_enter Try.func27, Try.ntmps27
  go_wp2_with fail
  refine (off_made _ _ c0).mono ?_
  rintro e w1 ⟨rfl, rfl⟩
  go_wp2_with fail
  have d4 := HM2.out.c4
  have d0 := HM2.out.c0
  refine (pages_made pb bb n _ d0 d4 hN).mono ?_
  rintro e w1 ⟨rfl, rfl⟩
  go_wp2_with fail
  exact bodyPost_ret (v := .agg #[.int .u32 ((n / 65536 : Nat) : Int), .int .u32 mx, .bool bd]) (by simp [results, Try.results27, go_sem]) rfl ⟨rfl, ((Kept.refl S0 w).alloc _).alloc _⟩
end
end Go.Proofs.Ytjkndigmoclnoaa
