/- The walk of the statement TabEnds. No condition. -/
import Derived.Test.YtpeekldngelkkaaTabK
import Derived.Test.YtpeekldngelkkaaTabO
import Derived.Deep.RegionHeld3
namespace Go.Proofs.Ytpeekldngelkkaa
open Go.RowKit

set_option maxHeartbeats 6400000 in
set_option maxRecDepth 100000 in
theorem ends_any (n : Nat) (over : Int) (w : World) (hn : n ≤ 255) (h1 : 0 ≤ over) (h2 : over ≤ 4294967295) :
    Calls Try.prog 5 #[.int .u8 (n : Int), .int .u32 over] w fun e w' => e = .returned (.bool true) ∧ Kept S0 w w' := by
  obtain ⟨far, hfar⟩ : ∃ far : Int, far = (n : Int) + 1 + over % 1073741824 := ⟨_, rfl⟩
  have f1 : (n : Int) < far := by omega
  have f2 : far ≤ 1073742079 := by omega
  have u0 : IntKind.i64.wrap (n : Int) = (n : Int) := IntWalk.i64_in _ (by omega)
  have u1 : IntKind.u32.wrap (n : Int) = (n : Int) := IntWalk.u32_in _ (by omega)
  have u2 : IntKind.u32.wrap ((n : Int) + 1) = (n : Int) + 1 := IntWalk.u32_in _ (by omega)
  have u3 : IntKind.u32.wrap ((n : Int) + 1 + over % 1073741824) = (n : Int) + 1 + over % 1073741824 := IntWalk.u32_in _ (by omega)
  have HF := Lib.hid hfar
  clear hfar
  go_enter Try.func5, Try.ntmps5
  go_wp2_with fail
  refine (some_any n (by omega) _).mono ?_
  rintro e w1 ⟨tb, lv, rfl, hm1, hk1⟩
  go_wp2_with fail
  refine (all_made hm1 (by omega)).mono ?_
  rintro e w2 ⟨was, rfl, ho2, hk2⟩
  have hm2 := hm1.kept0 hk2
  have hkk2 := hk1.then0 hk2
  have hsep : ∀ g, was.ownBlock = some g → lv.ownBlock ≠ some g := fun g h1 h2 => by have := (ho2.lt g h1).1; have := (hm1.own.lt g h2).2; omega
  have HSEP := Lib.hid hsep
  clear hm1 hk1 hk2 hsep
  have hs2 : TabAt w2 tb w.heap.size n 112 (n : Int) 0 false lv (someX n) := hm2
  clear hm2
  go_wp2_with fail
  refine (null_any _).mono ?_
  rintro e w3 ⟨rfl, hk⟩
  have hs3 := hs2.kept0 hk
  have ho3 := ho2.kept hk (fun _ _ x => x)
  have hkk3 := hkk2.then0 hk
  clear hs2 ho2 hkk2 hk
  go_wp2_with fail
  refine (fill_in n 0 ⟨112, 0, 0⟩ hs3 (by omega) (.inl rfl) rfl (by omega)).mono ?_
  rintro e w4 ⟨rfl, hs4, hk⟩
  rw [overV_none] at hs4
  have ho4 := ho3.kept hk (fun g hg e => HSEP.out g hg e)
  have hkk4 := hkk3.trans_ hk (fun i hi => .inr (hs3.own.lt i hi).1)
  clear hs3 ho3 hkk3 hk
  go_wp2_with fail
  refine (initnil_in n hs4 (by omega) (Nat.le_refl n)).mono ?_
  rintro e w5 ⟨rfl, hk⟩
  have hs5 := hs4.kept0 hk
  have ho5 := ho4.kept hk (fun _ _ x => x)
  have hkk5 := hkk4.then0 hk
  clear hs4 ho4 hkk4 hk
  go_wp2_with fail
  refine (copy_in n n 0 hs5 hs5 (by omega) (by omega) (by omega) (by omega)).mono ?_
  rintro e w6 ⟨rfl, hs6, hk⟩
  rw [overV_none] at hs6
  have ho6 := ho5.kept hk (fun g hg e => HSEP.out g hg e)
  have hkk6 := hkk5.trans_ hk (fun i hi => .inr (hs5.own.lt i hi).1)
  clear hs5 ho5 hkk5 hk
  go_wp2_with fail
  refine (null_any _).mono ?_
  rintro e w7 ⟨rfl, hk⟩
  have hs7 := hs6.kept0 hk
  have ho7 := ho6.kept hk (fun _ _ x => x)
  have hkk7 := hkk6.then0 hk
  clear hs6 ho6 hkk6 hk
  have B0 := Lib.hid (show inB far 0 n = false from decide_eq_false (by omega))
  have B1 := Lib.hid (show inB 0 ((n : Int) + 1) n = false from decide_eq_false (by omega))
  have B2 := Lib.hid (show inB (n : Int) 1 n = false from decide_eq_false (by omega))
  have B3 := Lib.hid (show inB 4294967295 4294967295 n = false from decide_eq_false (by omega))
  have hfo : (n : Int) + 1 + over % 1073741824 = far := HF.out.symm
  go_wp2_with fail
  try rw [hfo]
  refine (fill_trap far 0 ⟨112, 0, 0⟩ hs7 (by omega) (.inl rfl) rfl (by omega) (by omega) (by omega) (by omega) B0.out).mono ?_
  rintro e w8 ⟨rfl, hk⟩
  have hs8 := hs7.kept0 hk
  have ho8 := ho7.kept hk (fun _ _ x => x)
  have hkk8 := hkk7.then0 hk
  clear hs7 ho7 hkk7 hk
  go_wp2_with fail
  try rw [hfo]
  refine (initnil_trap far 0 0 hs8 (by omega) (by omega) (by omega) (by omega) (by omega) (by omega) (by omega) (.inl B0.out)).mono ?_
  rintro e w9 ⟨rfl, hk⟩
  have hs9 := hs8.kept0 hk
  have ho9 := ho8.kept hk (fun _ _ x => x)
  have hkk9 := hkk8.then0 hk
  clear hs8 ho8 hkk8 hk
  go_wp2_with fail
  try rw [hfo]
  refine (initnil_trap 0 1 0 hs9 (by omega) (by omega) (by omega) (by omega) (by omega) (by omega) (by omega) (.inr rfl)).mono ?_
  rintro e w10 ⟨rfl, hk⟩
  have hs10 := hs9.kept0 hk
  have ho10 := ho9.kept hk (fun _ _ x => x)
  have hkk10 := hkk9.then0 hk
  clear hs9 ho9 hkk9 hk
  go_wp2_with fail
  try rw [hfo]
  refine (copy_out far 0 0 hs10 hs10 (by omega) (by omega) (by omega) (by omega) (by omega) (by omega) (by omega) (by omega) (.inl B0.out)).mono ?_
  rintro e w11 ⟨rfl, hk⟩
  have hs11 := hs10.kept0 hk
  have ho11 := ho10.kept hk (fun _ _ x => x)
  have hkk11 := hkk10.then0 hk
  clear hs10 ho10 hkk10 hk
  go_wp2_with fail
  try rw [hfo]
  refine (copy_out 0 far 0 hs11 hs11 (by omega) (by omega) (by omega) (by omega) (by omega) (by omega) (by omega) (by omega) (.inr B0.out)).mono ?_
  rintro e w12 ⟨rfl, hk⟩
  have hs12 := hs11.kept0 hk
  have ho12 := ho11.kept hk (fun _ _ x => x)
  have hkk12 := hkk11.then0 hk
  clear hs11 ho11 hkk11 hk
  go_wp2_with fail
  try rw [hfo]
  refine (null_any _).mono ?_
  rintro e w13 ⟨rfl, hk⟩
  have hs13 := hs12.kept0 hk
  have ho13 := ho12.kept hk (fun _ _ x => x)
  have hkk13 := hkk12.then0 hk
  clear hs12 ho12 hkk12 hk
  go_wp2_with fail
  try rw [hfo]
  refine (fill_trap 0 ((n : Int) + 1) ⟨112, 0, 0⟩ hs13 (by omega) (.inl rfl) rfl (by omega) (by omega) (by omega) (by omega) B1.out).mono ?_
  rintro e w14 ⟨rfl, hk⟩
  have hs14 := hs13.kept0 hk
  have ho14 := ho13.kept hk (fun _ _ x => x)
  have hkk14 := hkk13.then0 hk
  clear hs13 ho13 hkk13 hk
  go_wp2_with fail
  try rw [hfo]
  refine (null_any _).mono ?_
  rintro e w15 ⟨rfl, hk⟩
  have hs15 := hs14.kept0 hk
  have ho15 := ho14.kept hk (fun _ _ x => x)
  have hkk15 := hkk14.then0 hk
  clear hs14 ho14 hkk14 hk
  go_wp2_with fail
  try rw [hfo]
  refine (fill_trap 4294967295 4294967295 ⟨112, 0, 0⟩ hs15 (by omega) (.inl rfl) rfl (by omega) (by omega) (by omega) (by omega) B3.out).mono ?_
  rintro e w16 ⟨rfl, hk⟩
  have hs16 := hs15.kept0 hk
  have ho16 := ho15.kept hk (fun _ _ x => x)
  have hkk16 := hkk15.then0 hk
  clear hs15 ho15 hkk15 hk
  go_wp2_with fail
  try rw [hfo]
  refine (null_any _).mono ?_
  rintro e w17 ⟨rfl, hk⟩
  have hs17 := hs16.kept0 hk
  have ho17 := ho16.kept hk (fun _ _ x => x)
  have hkk17 := hkk16.then0 hk
  clear hs16 ho16 hkk16 hk
  go_wp2_with fail
  try rw [hfo]
  refine (set_trap n ⟨112, 0, 0⟩ hs17 (by omega) (.inl rfl) rfl (by omega) (by omega) B2.out).mono ?_
  rintro e w18 ⟨rfl, hk⟩
  have hs18 := hs17.kept0 hk
  have ho18 := ho17.kept hk (fun _ _ x => x)
  have hkk18 := hkk17.then0 hk
  clear hs17 ho17 hkk17 hk
  go_wp2_with fail
  refine (all_made hs18 (by omega)).mono ?_
  rintro e w90 ⟨now, rfl, hn90, hk⟩
  have ho90 := ho18.kept hk (fun _ _ x => x)
  have hkk90 := hkk18.then0 hk
  obtain ⟨A, c, rfl, hc1, hc2, s1⟩ := ho90.out
  obtain ⟨B, d, rfl, hd1, hd2, s2⟩ := hn90.out
  have VS := Lib.hid (values_same B A n d c _ _ w90 s2 s1 (by omega) (fun _ _ => rfl))
  clear hs18 ho18 hkk18 hk ho90 hn90 s1 s2
  go_wp2_with fail
  refine VS.out.mono ?_
  rintro e w91 ⟨rfl, hk91⟩
  go_wp2_with fail
  refine (lives_any _).mono ?_
  rintro e w92 ⟨rfl, hk92⟩
  go_wp2_with fail
  go_ret
  exact ⟨rfl, (hkk90.then0 hk91).then0 hk92⟩
end Go.Proofs.Ytpeekldngelkkaa
