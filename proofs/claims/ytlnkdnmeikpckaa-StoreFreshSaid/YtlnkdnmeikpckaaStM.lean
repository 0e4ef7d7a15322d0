/- Contracts of a store's AddElem, AddData, Elem, Data. No condition. -/
import Derived.Test.YtlnkdnmeikpckaaStL
namespace Go.Proofs.Ytlnkdnmeikpckaa
open Go.RowKit

/-- A list that can be read. -/
structure LSl (w : World) (sz bytes : Nat) (A : Option Addr) (n c : Nat) (F : Nat → Value) : Prop where
  sl : Sl w A (n * sz) F
  z : A = none → n = 0 ∧ c = 0
  sm : n * bytes ≤ 140737488351232
theorem LSl.kept {w w' : World} {sz bytes : Nat} {A : Option Addr} {n c : Nat} {F : Nat → Value} (h : LSl w sz bytes A n c F) (hk : Kept S0 w w') : LSl w' sz bytes A n c F :=
  ⟨(h.sl.slb.kept hk (Nat.le_refl _) (fun _ e => e.elim)).sl, h.z, h.sm⟩
theorem lsl_own {w : World} {B sz e bytes : Nat} {Q : Value → Prop} {A : Option Addr} {n c : Nat} {F : Nat → Value} (h : Own w B e sz Q (.slice A n c) n F) (hn : n * bytes ≤ 140737488351232) : LSl w sz bytes A n c F := by
  rcases h with ⟨e, rfl⟩ | ⟨g, cap, fr, e, h1, h2, h3, h4, h5, h6⟩
  · cases e
    exact ⟨by rw [Nat.zero_mul]; exact Sl.nil _, fun _ => ⟨rfl, rfl⟩, hn⟩
  · cases e
    exact ⟨(Sl.of_row h4 (Nat.mul_le_mul_right _ h2)).congr h5, (fun h => by cases h), hn⟩

set_option maxHeartbeats 1600000 in
theorem func_same (A B C D : Option Addr) (n1 n2 c1 c2 c3 c4 : Nat) (v1 v2 u1 u2 : Nat → UInt8) (w : World) (h1 : Sl w A n1 (byteV v1)) (h2 : Sl w B n2 (byteV v2)) (h3 : Sl w C n1 (byteV u1)) (h4 : Sl w D n2 (byteV u2)) (hn1 : n1 ≤ 9223372036854775807) (hn2 : n2 ≤ 9223372036854775807) (he1 : ∀ i, i < n1 → v1 i = u1 i) (he2 : ∀ i, i < n2 → v2 i = u2 i) :
    Calls Try.prog 15 #[.agg #[.slice A n1 c1, .slice B n2 c2], .agg #[.slice C n1 c3, .slice D n2 c4]] w fun e w' => e = .returned (.bool true) ∧ Kept S0 w w' := by
  have hka : Kept S0 w ((w.alloc (.cells #[.slice A n1 c1, .slice B n2 c2] 24)).alloc (.cells #[.slice C n1 c3, .slice D n2 c4] 24)) := ((Kept.refl S0 w).alloc _).alloc _
  have hB1 := (Blk.new w 24 #[.slice A n1 c1, .slice B n2 c2]).alloc (.cells #[.slice C n1 c3, .slice D n2 c4] 24)
  have hB2 := Blk.new1 w (.cells #[.slice A n1 c1, .slice B n2 c2] 24) 24 #[.slice C n1 c3, .slice D n2 c4]
  have a0 := hB1.cell 0
  have b0 := hB2.cell 0
  have HB1 := Lib.hid hB1
  have HB2 := Lib.hid hB2
  have K := fun {X : Option Addr} {n : Nat} {v : Nat → UInt8} (h : Sl w X n (byteV v)) => (h.slb.kept hka (Nat.le_refl _) (fun _ e => e.elim)).sl
  have HS1 := Lib.hid (types_same A C n1 c1 c3 v1 u1 _ (K h1) (K h3) hn1 he1)
  have H2 := Lib.hid (K h2)
  have H4 := Lib.hid (K h4)
  have HK := Lib.hid hka
  have HE2 := Lib.hid he2
  clear hB1 hB2 h1 h2 h3 h4 hka he1 he2 K
  go_enter Try.func15, Try.ntmps15
  go_wp2_with fail
  refine HS1.out.mono ?_
  rintro e w2 ⟨rfl, hk2⟩
  have HK2 := Lib.hid (HK.out.then0 hk2)
  have a1 := (hk2.blk HB1.out (fun x => x)).cell 1
  have b1 := (hk2.blk HB2.out (fun x => x)).cell 1
  have HS2 := Lib.hid (types_same B D n2 c2 c4 v2 u2 w2 (H2.out.slb.kept hk2 (Nat.le_refl _) (fun _ e => e.elim)).sl (H4.out.slb.kept hk2 (Nat.le_refl _) (fun _ e => e.elim)).sl hn2 HE2.out)
  clear hk2 a0 b0
  go_wp2_with fail
  refine HS2.out.mono ?_
  rintro e w3 ⟨rfl, hk3⟩
  have HK3 := Lib.hid (HK2.out.then0 hk3)
  clear hk3 a1 b1
  go_wp2_with fail
  go_ret
  exact ⟨rfl, HK3.out⟩

/-- Is there one that is no reference of the type? -/
def badB (v : Nat → V3) (n : Nat) (el : Int) : Bool := (List.range n).any fun i => !fitB (v i).t (v i).lo (v i).hi el
theorem badB_true {v : Nat → V3} {n i : Nat} {el : Int} (hi : i < n) (h : fitB (v i).t (v i).lo (v i).hi el = false) : badB v n el = true := by
  unfold badB; rw [List.any_eq_true]; exact ⟨i, List.mem_range.2 hi, by rw [h]; rfl⟩
theorem badB_false {v : Nat → V3} {n : Nat} {el : Int} (h : ∀ i, i < n → fitB (v i).t (v i).lo (v i).hi el = true) : badB v n el = false := by
  unfold badB; rw [List.any_eq_false]; intro i hi; rw [h i (List.mem_range.1 hi)]; simp

set_option maxHeartbeats 800000 in
theorem el1_any (x : V3) (bx : Nat) (el : Int) (w : World) (hel : el = 112 ∨ el = 111) (h0 : w.cell? ⟨bx, 0, none⟩ = some (.int .u8 el)) :
    Calls Try.prog 41 #[.agg #[.int .u8 x.t, .int .u64 x.lo, .int .u64 x.hi], .pointer (some ⟨bx, 0, none⟩)] w fun e w' => e = .returned (.bool (!fitB x.t x.lo x.hi el)) ∧ Kept S0 w w' := by
  have hka : Kept S0 w (w.alloc (.cells #[.int .u8 x.t, .int .u64 x.lo, .int .u64 x.hi] 40)) := (Kept.refl S0 w).alloc _
  have c0 : (w.alloc (.cells #[.int .u8 x.t, .int .u64 x.lo, .int .u64 x.hi] 40)).cell? ⟨bx, 0, none⟩ = some (.int .u8 el) := keep0 hka h0
  have hB := Blk.new w 40 #[.int .u8 x.t, .int .u64 x.lo, .int .u64 x.hi]
  have e0 : (w.alloc (.cells #[.int .u8 x.t, .int .u64 x.lo, .int .u64 x.hi] 40)).cell? ⟨w.heap.size, 0, none⟩ = some (.int .u8 x.t) := hB.cell 0
  have e1 : (w.alloc (.cells #[.int .u8 x.t, .int .u64 x.lo, .int .u64 x.hi] 40)).cell? ⟨w.heap.size, 1, none⟩ = some (.int .u64 x.lo) := hB.cell 1
  have e2 : (w.alloc (.cells #[.int .u8 x.t, .int .u64 x.lo, .int .u64 x.hi] 40)).cell? ⟨w.heap.size, 2, none⟩ = some (.int .u64 x.hi) := hB.cell 2
  have HE := Lib.hid hel
  have HK := Lib.hid hka
  clear hB hel h0 hka
  by_cases ht : x.t = el
  · have HT := Lib.hid (show fitB x.t x.lo x.hi el = refB x.lo x.hi by simp [fitB, ht])
    have HT2 := Lib.hid ht
    rw [ht] at e0
    clear ht
    obtain ⟨xt, xl, xh⟩ := x
    obtain rfl : xt = el := HT2.out
    go_enter Try.func41, Try.ntmps41
    go_wp2_with fail
    refine (has_ref _ _ _ _ HE.out).mono ?_
    rintro e w2 ⟨rfl, hk⟩
    have HK2 := Lib.hid (HK.out.then0 hk)
    clear hk c0 e0 e1 e2
    go_wp2_with fail
    go_ret
    exact ⟨ret_bool (by rw [HT.out]), HK2.out⟩
  · have HT := Lib.hid (show fitB x.t x.lo x.hi el = false by simp [fitB, ht])
    have hb : (x.t != el) = true := bne_iff_ne.2 ht
    clear ht
    go_enter Try.func41, Try.ntmps41
    go_wp2_with fail
    go_ret
    exact ⟨ret_bool (by rw [HT.out]; rfl), HK.out⟩

set_option maxHeartbeats 1600000 in
theorem index_el (A : Option Addr) (n c : Nat) (v : Nat → V3) (bx : Nat) (el : Int) (w : World) (hel : el = 112 ∨ el = 111) (hA : Sl w A (n * 3) (vcell v)) (hn : n ≤ 9223372036854775806)
    (h0 : w.cell? ⟨bx, 0, none⟩ = some (.int .u8 el)) :
    Calls Try.prog 80 #[.slice A n c, .func (.func 41) #[] #[.pointer (some ⟨bx, 0, none⟩)]] w fun e w' => ∃ r : Int, e = .returned (.int .i64 r) ∧ decide (0 ≤ r) = badB v n el ∧ Kept S0 w w' := by
  have HA := Lib.hid hA
  have H0 := Lib.hid h0
  clear hA h0
  go_enter Try.func80, Try.ntmps80
  go_wp2_with fail
  go_loopw [8] (fun i wr => ∃ k : Nat, k ≤ n ∧ i = .int .i64 (k : Int) ∧ (∀ j, j < k → fitB (v j).t (v j).lo (v j).hi el = true) ∧ Kept S0 w wr) (fun i _ => n - (intOf i).toNat)
  case atStart => exact ⟨0, by omega, rfl, fun j hj => absurd hj (by omega), Kept.refl S0 w⟩
  case round =>
    obtain ⟨k, hk, rfl, hfit, hkw⟩ := hrel
    by_cases hlt : k < n
    · have hA2 := (HA.out.slb.kept hkw (Nat.le_refl _) (fun _ h => h.elim)).sl
      obtain ⟨b1, o1, hAe, hc⟩ := hA2 (by omega)
      subst hAe
      have d0 : wr.cell? ⟨b1, o1 + k * 3, none⟩ = some (.int .u8 (v k).t) := by rw [← vcell_0]; exact hc _ (by omega)
      have d1 : wr.cell? ⟨b1, o1 + k * 3 + 1, none⟩ = some (.int .u64 (v k).lo) := by rw [← vcell_1, Nat.add_assoc]; exact hc _ (by omega)
      have d2 : wr.cell? ⟨b1, o1 + k * 3 + 2, none⟩ = some (.int .u64 (v k).hi) := by rw [← vcell_2, Nat.add_assoc]; exact hc _ (by omega)
      have c0 : wr.cell? ⟨bx, 0, none⟩ = some (.int .u8 el) := keep0 hkw H0.out
      have HI := Lib.hid (el1_any (v k) bx el wr hel c0)
      have HF := Lib.hid hfit
      have HK := Lib.hid hkw
      clear hc c0 hfit hkw hA2
      go_wp2_with fail
      refine HI.out.mono ?_
      rintro e w1 ⟨rfl, hk1⟩
      cases hfk : fitB (v k).t (v k).lo (v k).hi el with
      | true =>
        have HFK := Lib.hid hfk
        clear hfk
        go_wp2_with fail
        go_roundw
        case rel => exact ⟨k + 1, by omega, by go_num, fun j hj => by
          rcases Nat.lt_or_ge j k with h | h
          · exact HF.out j h
          · obtain rfl : j = k := by omega
            exact HFK.out, HK.out.then0 hk1⟩
        case measure => simp [intOf]; omega
      | false =>
        have HFK := Lib.hid hfk
        clear hfk
        go_wp2_with fail
        go_ret
        exact ⟨k, rfl, by rw [badB_true hlt HFK.out]; exact decide_eq_true (by omega), HK.out.then0 hk1⟩
    · obtain rfl : k = n := by omega
      have HF := Lib.hid hfit
      clear hfit
      go_wp2_with fail
      go_ret
      exact ⟨-1, rfl, by rw [badB_false HF.out]; rfl, hkw⟩

theorem contains_el (A : Option Addr) (n c : Nat) (v : Nat → V3) (bx : Nat) (el : Int) (w : World) (hel : el = 112 ∨ el = 111) (hA : Sl w A (n * 3) (vcell v)) (hn : n ≤ 9223372036854775806)
    (h0 : w.cell? ⟨bx, 0, none⟩ = some (.int .u8 el)) :
    Calls Try.prog 40 #[.slice A n c, .func (.func 41) #[] #[.pointer (some ⟨bx, 0, none⟩)]] w fun e w' => e = .returned (.bool (badB v n el)) ∧ Kept S0 w w' := by
  have HI := Lib.hid (index_el A n c v bx el w hel hA hn h0)
  clear hA h0
  go_enter Try.func40, Try.ntmps40
  go_wp2_with fail
  refine HI.out.mono ?_
  rintro e w1 ⟨r, rfl, hr, hk⟩
  have HR := Lib.hid hr
  clear hr
  go_wp2_with fail
  go_ret
  exact ⟨ret_bool HR.out, hk⟩

section
variable {w : World} {sb B n : Nat} {fl tl ml gl el dl il : Value} {F : Nat → Value}

theorem isRef_or {t : Int} (h : isRefB t = true) : t = 112 ∨ t = 111 := by
  unfold isRefB at h
  simp at h
  omega

set_option maxRecDepth 100000 in
set_option maxHeartbeats 1600000 in
theorem addelem_bad (t : Int) (A : Option Addr) (m c : Nat) (v : Nat → V3) (hb : Blk w sb 95 (stCells fl tl ml gl el dl il)) (hown : Own w B 130 2 AnyV el n F) (hn : n < 65536) (hA : LSl w 3 24 A m c (vcell v)) (hbad : isRefB t = false ∨ badB v m t = true) :
    Calls Try.prog 11 #[.pointer (some ⟨sb, 0, none⟩), .int .u8 t, .slice A m c] w fun e w' => e = .returned (.tuple #[.int .i64 0, .int .i64 2]) ∧ Kept S0 w w' := by
  obtain ⟨lA, lc, hlv, _, _, _⟩ := hown.out
  subst hlv
  have hka : Kept S0 w (w.alloc (.cells #[.int .u8 t] 37)) := (Kept.refl S0 w).alloc _
  have hb1 := hka.blk hb (fun x => x)
  have c0 : (w.alloc (.cells #[.int .u8 t] 37)).cell? ⟨sb, 0, none⟩ = some (.bool true) := hb1.cell 0
  have c1 : (w.alloc (.cells #[.int .u8 t] 37)).cell? ⟨sb, 5, none⟩ = some (.slice lA n lc) := hb1.cell 5
  have d0 : (w.alloc (.cells #[.int .u8 t] 37)).cell? ⟨w.heap.size, 0, none⟩ = some (.int .u8 t) := (Blk.new w 37 #[.int .u8 t]).cell 0
  have hnn : decide ((65536 : Int) ≤ (n : Int)) = false := decide_eq_false (by omega)
  have HA := Lib.hid (hA.kept hka)
  have HK := Lib.hid hka
  have HB := Lib.hid hbad
  clear hb hown hka hb1 hA hbad
  go_enter Try.func11, Try.ntmps11
  go_wp2_with fail
  refine (off_made _ _ c0).mono ?_
  rintro e w1 ⟨rfl, rfl⟩
  go_wp2_with fail
  refine (isref_any t _).mono ?_
  rintro e w1 ⟨rfl, rfl⟩
  cases hr : isRefB t with
  | false =>
    clear hr
    go_wp2_with fail
    go_ret2
    exact ⟨rfl, HK.out⟩
  | true =>
    have HR := Lib.hid (isRef_or hr)
    have HBB := Lib.hid (HB.out.resolve_left (by rw [hr]; simp))
    have HC := Lib.hid (contains_el A m c v w.heap.size t _ HR.out HA.out.sl (by have := HA.out.sm; omega) d0)
    clear hr
    go_wp2_with fail
    refine HC.out.mono ?_
    rintro e w2 ⟨rfl, hk2⟩
    rw [HBB.out]
    have HK2 := Lib.hid (HK.out.then0 hk2)
    clear hk2 c0 c1 d0
    go_wp2_with fail
    go_ret2
    exact ⟨rfl, HK2.out⟩

/-- What AddElem has done. -/
structure AddedE (w w' : World) (sb B n : Nat) (fl tl ml gl el dl il : Value) (F : Nat → Value) (t : Int) (m : Nat) (v : Nat → V3) : Prop where
  ex : ∃ el' yA yc, Blk w' sb 95 (stCells fl tl ml gl el' dl il) ∧ Own w' B 130 2 AnyV el' (n + 1) (after (n * 2) F (ecell #[.int .u8 t, .slice yA m yc])) ∧ Own w' w.heap.size 40 3 AnyV (.slice yA m yc) m (vcell v) ∧ (el'.ownBlock = el.ownBlock ∨ ∃ g, el'.ownBlock = some g ∧ w.heap.size ≤ g)
  kept : Kept (ST sb el) w w'

set_option maxRecDepth 100000 in
set_option maxHeartbeats 3200000 in
theorem addelem_ok (t : Int) (A : Option Addr) (m c : Nat) (v : Nat → V3) (hb : Blk w sb 95 (stCells fl tl ml gl el dl il)) (hown : Own w B 130 2 AnyV el n F) (hn : n < 65536) (hB : B ≤ w.heap.size) (hA : LSl w 3 24 A m c (vcell v)) (hr : isRefB t = true) (hbad : badB v m t = false) :
    Calls Try.prog 11 #[.pointer (some ⟨sb, 0, none⟩), .int .u8 t, .slice A m c] w fun e w' => e = .returned (.tuple #[.int .i64 (n : Int), .int .i64 0]) ∧ AddedE w w' sb B n fl tl ml gl el dl il F t m v := by
  obtain ⟨lA, lc, hlv, _, _, _⟩ := hown.out
  subst hlv
  have hka : Kept S0 w (w.alloc (.cells #[.int .u8 t] 37)) := (Kept.refl S0 w).alloc _
  have hb1 := hka.blk hb (fun x => x)
  have c0 : (w.alloc (.cells #[.int .u8 t] 37)).cell? ⟨sb, 0, none⟩ = some (.bool true) := hb1.cell 0
  have c1 : (w.alloc (.cells #[.int .u8 t] 37)).cell? ⟨sb, 5, none⟩ = some (.slice lA n lc) := hb1.cell 5
  have d0 : (w.alloc (.cells #[.int .u8 t] 37)).cell? ⟨w.heap.size, 0, none⟩ = some (.int .u8 t) := (Blk.new w 37 #[.int .u8 t]).cell 0
  have hnn : decide ((65536 : Int) ≤ (n : Int)) = false := decide_eq_false (by omega)
  have hsz : (w.alloc (.cells #[.int .u8 t] 37)).heap.size = w.heap.size + 1 := by simp
  have HSZ := Lib.hid hsz
  have hm := hA.sm
  have hfl : ∀ g, (Value.slice lA n lc).ownBlock = some g → g < w.heap.size := fun g hg => (hown.lt g hg).2
  have HFL := Lib.hid hfl
  have hsl := hb.lt
  have HA := Lib.hid hA
  have HB := Lib.hid hb
  have HO := Lib.hid hown
  have HK := Lib.hid hka
  have HR := Lib.hid (isRef_or hr)
  have HC := Lib.hid (contains_el A m c v w.heap.size t _ HR.out (hA.kept hka).sl (by omega) d0)
  have HBD := Lib.hid hbad
  clear hb hown hka hb1 hA hbad hsz hfl
  go_enter Try.func11, Try.ntmps11
  go_wp2_with fail
  refine (off_made _ _ c0).mono ?_
  rintro e w1 ⟨rfl, rfl⟩
  go_wp2_with fail
  refine (isref_any t _).mono ?_
  rintro e w1 ⟨rfl, rfl⟩
  rw [hr]
  go_wp2_with fail
  refine HC.out.mono ?_
  rintro e w2 ⟨rfl, hk2⟩
  rw [HBD.out]
  have d2 := keep0 hk2 d0
  have HK2 := Lib.hid (HK.out.then0 hk2)
  have HS2 := Lib.hid hk2.size
  clear hk2 c0 c1 d0
  go_wp2_with fail
  generalize hbx : w.heap.size = bx at *
  refine wp_region_R (fun w' => w'.cell? ⟨bx, 0, none⟩ = some (.int .u8 t)) [] (by kernel_rfl) ?_
  have hkd := (Kept.refl S0 w2).drew
  have hS : w2.drew.cell? ⟨bx, 0, none⟩ = some (.int .u8 t) := keep0 hkd d2
  have HKD := Lib.hid hkd
  clear hkd d2
  generalize w2.drew = w3 at *
  refine wpAnyR_take 0 (v := ?_) rfl (by kernel_rfl) (by kernel_rfl) (by kernel_rfl) (by kernel_rfl) (fun _ _ _ h => h) hS ⟨by rfl, ?_⟩ ?_
  rotate_left; (intro w hSw; (try dsimp only at hSw); first | (go_simp; done) | (go_simp; with_reducible rfl))
  simp only [List.getElem_toArray, List.getElem_cons_zero, Act.put, List.setIfInBounds_toArray, List.set_cons_zero, List.set_cons_succ]
  refine wpAnyR_take 1 (v := ?_) rfl (by kernel_rfl) (by kernel_rfl) (by kernel_rfl) (by kernel_rfl) (fun _ _ _ h => h) hS ⟨by rfl, ?_⟩ ?_
  rotate_left; (intro w hSw; (try dsimp only at hSw); first | (go_simp; done) | (go_simp; with_reducible rfl))
  simp only [List.getElem_toArray, List.getElem_cons_zero, List.getElem_cons_succ, Act.put, List.setIfInBounds_toArray, List.set_cons_zero, List.set_cons_succ]
  refine wpAnyR_take 2 (v := ?_) rfl (by kernel_rfl) (by kernel_rfl) (by kernel_rfl) (by kernel_rfl) (fun _ _ _ h => h) hS ⟨by rfl, ?_⟩ ?_
  rotate_left; (intro w hSw; (try dsimp only at hSw); first | (go_simp; done) | (go_simp; with_reducible rfl))
  simp only [List.getElem_toArray, List.getElem_cons_zero, List.getElem_cons_succ, Act.put, List.setIfInBounds_toArray, List.set_cons_zero, List.set_cons_succ]
  refine wpAnyR_take 3 (v := ?_) rfl (by kernel_rfl) (by kernel_rfl) (by kernel_rfl) (by kernel_rfl) (fun _ _ _ h => h) hS ⟨by rfl, ?_⟩ ?_
  rotate_left; (intro w hSw; (try dsimp only at hSw); first | (go_simp; done) | (go_simp; with_reducible rfl))
  simp only [List.getElem_toArray, List.getElem_cons_zero, List.getElem_cons_succ, Act.put, List.setIfInBounds_toArray, List.set_cons_zero, List.set_cons_succ]
  refine wpAnyR_take 4 (v := ?_) rfl (by kernel_rfl) (by kernel_rfl) (by kernel_rfl) (by kernel_rfl) (fun _ _ _ h => h) hS ⟨by rfl, ?_⟩ ?_
  rotate_left; (intro w hSw; (try dsimp only at hSw); first | (go_simp; done) | (go_simp; with_reducible rfl))
  simp only [List.getElem_toArray, List.getElem_cons_zero, List.getElem_cons_succ, Act.put, List.setIfInBounds_toArray, List.set_cons_zero, List.set_cons_succ]
  refine wpAnyR_one 5 rfl (by kernel_rfl) (fun K hK => ?_)
  go_simp
  go_at_call 44
  have hk3 := HK2.out.then0 HKD.out
  have hA3 := HA.out.kept hk3
  refine (clone_v A m c v w3 hA3.sl hA3.z hA3.sm).mono ?_
  rintro e w4 ⟨y, rfl, hy, hk4⟩
  obtain ⟨yA, yc, hye, _, _, _⟩ := hy.out
  subst hye
  have hS4 : w4.cell? ⟨bx, 0, none⟩ = some (.int .u8 t) := keep0 hk4 hS
  refine hK.out _ _ (fun _ => hS4) ?_
  clear hK K hS
  refine wpAnyR_take 6 (v := ?_) rfl (by kernel_rfl) (by kernel_rfl) (by kernel_rfl) (by kernel_rfl) (fun _ _ _ h => h) hS4 ⟨by rfl, ?_⟩ ?_
  rotate_left; (intro w hSw; (try dsimp only at hSw); first | (go_simp; done) | (go_simp; with_reducible rfl))
  simp only [List.getElem_toArray, List.getElem_cons_zero, List.getElem_cons_succ, Act.put, List.setIfInBounds_toArray, List.set_cons_zero, List.set_cons_succ]
  refine wpAnyR_one 7 rfl (by kernel_rfl) (fun K hK => ?_)
  go_simp
  go_at_call 43
  have hk5 := hk3.then0 hk4
  have hb4 := hk5.blk HB.out (fun x => x)
  have ho4 := HO.out.kept hk5 (fun _ _ x => x)
  refine (add_ELEM 5 (.int .u8 t) (.slice yA m yc) rfl rfl hb4 rfl ho4 hn (by have := hk5.size; omega)).mono ?_
  rintro e w5 ⟨rfl, el', hb5, ho5, hk6, hl5⟩
  have hyb : ∀ g, (Value.slice yA m yc).ownBlock = some g → ¬ ST sb (.slice lA n lc) g := fun g hg e => by
    have h1 := (hy.lt g hg).1
    have h2 := hk3.size
    rcases e with e | e
    · have e' : g = sb := e
      omega
    · have := HFL.out g e; omega
  have hbt : ¬ ST sb (.slice lA n lc) bx := fun e => by
    rcases e with e | e
    · have e' : bx = sb := e
      omega
    · have := HFL.out bx e; omega
  have hS5 : w5.cell? ⟨bx, 0, none⟩ = some (.int .u8 t) := (hk6.cell (World.block_lt_of_cell? _ _ hS4) hbt).trans hS4
  have HFIN := Lib.hid (show AddedE w w5 sb B n fl tl ml gl (.slice lA n lc) dl il F t m v from ⟨⟨el', yA, yc, hb5, ho5, (hy.kept hk6 hyb).mono (by have := hk3.size; omega), hl5.imp id (fun ⟨g, a, b⟩ => ⟨g, a, by have := hk5.size; omega⟩)⟩, (hk5.of0 _).trans hk6⟩)
  clear hy hk4 hk5 hb4 ho4 hb5 ho5 hk6 hl5 hyb hbt hk3 hA3
  refine hK.out _ _ (fun _ => hS5) ?_
  clear hK K hS4
  refine wpAnyR_take 8 (v := ?_) rfl (by kernel_rfl) (by kernel_rfl) (by kernel_rfl) (by kernel_rfl) (fun _ _ _ h => h) hS5 ⟨by rfl, ?_⟩ ?_
  rotate_left; (intro w hSw; (try dsimp only at hSw); first | (go_simp; done) | (go_simp; with_reducible rfl))
  simp only [List.getElem_toArray, List.getElem_cons_zero, List.getElem_cons_succ, Act.put, List.setIfInBounds_toArray, List.set_cons_zero, List.set_cons_succ]
  refine wpAnyR_take 9 (v := ?_) rfl (by kernel_rfl) (by kernel_rfl) (by kernel_rfl) (by kernel_rfl) (fun _ _ _ h => h) hS5 ⟨by rfl, ?_⟩ ?_
  rotate_left; (intro w hSw; (try dsimp only at hSw); first | (go_simp; done) | (go_simp; with_reducible rfl))
  simp only [List.getElem_toArray, List.getElem_cons_zero, List.getElem_cons_succ, Act.put, List.setIfInBounds_toArray, List.set_cons_zero, List.set_cons_succ]
  refine wpAnyR_take 10 (v := ?_) rfl (by kernel_rfl) (by kernel_rfl) (by kernel_rfl) (by kernel_rfl) (fun _ _ _ h => h) hS5 ⟨by rfl, ?_⟩ ?_
  rotate_left; (intro w hSw; (try dsimp only at hSw); first | (go_simp; done) | (go_simp; with_reducible rfl))
  simp only [List.getElem_toArray, List.getElem_cons_zero, List.getElem_cons_succ, Act.put, List.setIfInBounds_toArray, List.set_cons_zero, List.set_cons_succ]
  refine wpAnyR_take 11 (v := ?_) rfl (by kernel_rfl) (by kernel_rfl) (by kernel_rfl) (by kernel_rfl) (fun _ _ _ h => h) hS5 ⟨by rfl, ?_⟩ ?_
  rotate_left; (intro w hSw; (try dsimp only at hSw); first | (go_simp; done) | (go_simp; with_reducible rfl))
  simp only [List.getElem_toArray, List.getElem_cons_zero, List.getElem_cons_succ, Act.put, List.setIfInBounds_toArray, List.set_cons_zero, List.set_cons_succ]
  clear hS5
  refine wpAnyR_done (by kernel_rfl) ?_ _
  go_wp2_with fail
  go_ret2
  exact ⟨rfl, HFIN.out⟩
end
end Go.Proofs.Ytlnkdnmeikpckaa
