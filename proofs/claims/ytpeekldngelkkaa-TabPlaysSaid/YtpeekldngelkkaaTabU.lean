/- Contracts of the statements' both: Init, Copy. No condition. -/
import Derived.Test.YtpeekldngelkkaaTabT
namespace Go.Proofs.Ytpeekldngelkkaa
open Go.RowKit

/-- What Init answers, and what there is then. -/
def PT.initE (s : PT) (v : Nat → V3) (m a fr k : Nat) : Int := if badB v m s.el = true then 2 else if a + k ≤ s.n ∧ fr + k ≤ m then 0 else 6
def PT.initF (s : PT) (v : Nat → V3) (m a fr k : Nat) : Nat → V3 := if badB v m s.el = false ∧ a + k ≤ s.n ∧ fr + k ≤ m then overV s.f a k (fun i => v (fr + i)) else s.f
def PT.copyE (s q : PT) (a fr k : Nat) : Int := if s.el = q.el then (if a + k ≤ s.n ∧ fr + k ≤ q.n then 0 else 6) else 2
def PT.copyF (s q : PT) (a fr k : Nat) : Nat → V3 := if s.el = q.el ∧ a + k ≤ s.n ∧ fr + k ≤ q.n then overV s.f a k (fun i => q.f (fr + i)) else s.f

theorem inB_out {a k n b l m : Nat} (h : ¬ (a + k ≤ n ∧ b + l ≤ m)) : inB (a : Int) (k : Int) (n : Int) = false ∨ inB (b : Int) (l : Int) (m : Int) = false := by
  by_cases h1 : a + k ≤ n
  · exact .inr (by unfold inB; exact decide_eq_false (by omega))
  · exact .inl (by unfold inB; exact decide_eq_false (by omega))

section
variable {w : World} {B tp rp tq rq : Nat} {mn mn2 : Int} {lt lr lt2 lr2 : Value} {s q : PT}

theorem init_is (a fr k : Nat) (L : Option Addr) (m c : Nat) (v : Nat → V3) (h : TabAt w tp B s.n s.el mn s.mx s.bd lt s.f) (hn : s.n ≤ 16384) (hel : s.el = 112 ∨ s.el = 111) (hL : Sl w L (m * 3) (vcell v)) (hm : m ≤ 9223372036854775806) (hmc : m ≤ c) (ha : a ≤ 4294967295) (hf : fr ≤ 4294967295) (hk : k ≤ 4294967295) :
    Calls Try.prog 20 #[.pointer (some ⟨tp, 0, none⟩), .int .u32 (a : Int), .slice L m c, .int .u32 (fr : Int), .int .u32 (k : Int)] w fun e w' => e = .returned (.int .i64 (s.initE v m a fr k)) ∧ TabAt w' tp B s.n s.el mn s.mx s.bd lt (s.initF v m a fr k) ∧ Kept (SO lt) w w' := by
  unfold PT.initE PT.initF
  cases hb : badB v m s.el with
  | true =>
    refine (init_bad a fr k L m c v h hel hL hm hb).mono ?_
    rintro e w1 ⟨rfl, hk⟩
    rw [if_pos rfl, if_neg (fun e => by cases e.1)]
    exact ⟨rfl, h.kept0 hk, hk.of0 _⟩
  | false =>
    rw [if_neg (by simp)]
    by_cases hin : a + k ≤ s.n ∧ fr + k ≤ m
    · refine (init_in a fr k L m c v h hn hel hL hm hmc hb hf hin.1 hin.2).mono ?_
      rintro e w1 ⟨rfl, h1, hk⟩
      rw [if_pos hin, if_pos ⟨rfl, hin⟩]
      exact ⟨rfl, h1, hk⟩
    · refine (init_trap a fr k L m c v h hn hel hL hm hb (by omega) (by omega) (by omega) (by omega) (by omega) (by omega) (inB_out hin)).mono ?_
      rintro e w1 ⟨rfl, hk⟩
      rw [if_neg hin, if_neg (fun e => hin e.2)]
      exact ⟨rfl, h.kept0 hk, hk.of0 _⟩

theorem rinit_all (a fr k : Nat) (L : Option Addr) (m c : Nat) (v : Nat → V3) (h : RefAt w rp B s.n s.el mn s.mx s.bd lr s.f) (hn : s.n ≤ 16384) (hel : s.el = 112 ∨ s.el = 111) (hL : Sl w L (m * 3) (vcell v)) (hL0 : L = none → m = 0) (hm : m ≤ 9223372036854775806) (hmc : m ≤ c) (ha : a ≤ 4294967295) (hf : fr ≤ 4294967295) (hk : k ≤ 4294967295) :
    Calls Try.prog 40 #[.pointer (some ⟨rp, 0, none⟩), .int .u32 (a : Int), .slice L m c, .int .u32 (fr : Int), .int .u32 (k : Int)] w fun e w' => e = .returned (.int .i64 (s.initE v m a fr k)) ∧ RefAt w' rp B s.n s.el mn s.mx s.bd lr (s.initF v m a fr k) ∧ Kept (SO lr) w w' := by
  refine (rinit_is (Q := fun z w' => z = s.initE v m a fr k ∧ RefAt w' rp B s.n s.el mn s.mx s.bd lr (s.initF v m a fr k) ∧ Kept (SO lr) w w') a fr k L m c v h hel hL hm (fun hb w' hk => ?_) (fun hb w' hkw => ?_)).mono ?_
  · unfold PT.initE PT.initF
    rw [if_pos hb, if_neg (fun e => by rw [hb] at e; cases e.1)]
    exact ⟨rfl, h.kept0 hk, hk.of0 _⟩
  · unfold PT.initE PT.initF
    rw [if_neg (by rw [hb]; simp)]
    by_cases hin : a + k ≤ s.n ∧ fr + k ≤ m
    · refine (rput_in a fr k L m c v (h.kept0 hkw) hn (hL.slb.kept hkw (Nat.le_refl _) (fun _ h => h.elim)).sl hL0 hm hmc hf hin.1 hin.2).mono ?_
      rintro e w1 ⟨rfl, h1, hk⟩
      rw [if_pos hin, if_pos ⟨hb, hin⟩]
      exact ⟨_, rfl, rfl, h1, (hkw.of0 _).trans hk⟩
    · refine (rput_trap a fr k L m c (h.kept0 hkw) hn (by omega) (by omega) (by omega) (by omega) (by omega) (by omega) (by omega) (inB_out hin)).mono ?_
      rintro e w1 ⟨rfl, hk⟩
      rw [if_neg hin, if_neg (fun e => hin e.2)]
      exact ⟨_, rfl, rfl, (h.kept0 hkw).kept0 hk, (hkw.then0 hk).of0 _⟩
  · rintro e w1 ⟨z, rfl, rfl, h1, h2⟩
    exact ⟨rfl, h1, h2⟩

theorem copy_is (a fr k : Nat) (h : TabAt w tp B s.n s.el mn s.mx s.bd lt s.f) (h2 : TabAt w tq B q.n q.el mn2 q.mx q.bd lt2 q.f) (hn : s.n ≤ 16384) (hn2 : q.n ≤ 16384) (ha : a ≤ 4294967295) (hf : fr ≤ 4294967295) (hk : k ≤ 4294967295) :
    Calls Try.prog 11 #[.pointer (some ⟨tp, 0, none⟩), .int .u32 (a : Int), .pointer (some ⟨tq, 0, none⟩), .int .u32 (fr : Int), .int .u32 (k : Int)] w fun e w' => e = .returned (.int .i64 (s.copyE q a fr k)) ∧ TabAt w' tp B s.n s.el mn s.mx s.bd lt (s.copyF q a fr k) ∧ Kept (SO lt) w w' := by
  unfold PT.copyE PT.copyF
  by_cases he : s.el = q.el
  · rw [if_pos he]
    rw [← he] at h2
    by_cases hin : a + k ≤ s.n ∧ fr + k ≤ q.n
    · refine (copy_in a fr k h h2 hn hn2 hin.1 hin.2).mono ?_
      rintro e w1 ⟨rfl, h1, hk⟩
      rw [if_pos hin, if_pos ⟨he, hin⟩]
      exact ⟨rfl, h1, hk⟩
    · refine (copy_out a fr k h h2 hn hn2 (by omega) (by omega) (by omega) (by omega) (by omega) (by omega) (inB_out hin)).mono ?_
      rintro e w1 ⟨rfl, hk⟩
      rw [if_neg hin, if_neg (fun e => hin e.2)]
      exact ⟨rfl, h.kept0 hk, hk.of0 _⟩
  · rw [if_neg he]
    refine (copy_arg a fr k h h2 he).mono ?_
    rintro e w1 ⟨rfl, hk⟩
    rw [if_neg (fun e => he e.1)]
    exact ⟨rfl, h.kept0 hk, hk.of0 _⟩

theorem rcopy_is (a fr k : Nat) (h : RefAt w rp B s.n s.el mn s.mx s.bd lr s.f) (h2 : RefAt w rq B q.n q.el mn2 q.mx q.bd lr2 q.f) (hn : s.n ≤ 16384) (hn2 : q.n ≤ 16384) (ha : a ≤ 4294967295) (hf : fr ≤ 4294967295) (hk : k ≤ 4294967295) :
    Calls Try.prog 41 #[.pointer (some ⟨rp, 0, none⟩), .int .u32 (a : Int), .pointer (some ⟨rq, 0, none⟩), .int .u32 (fr : Int), .int .u32 (k : Int)] w fun e w' => e = .returned (.int .i64 (s.copyE q a fr k)) ∧ RefAt w' rp B s.n s.el mn s.mx s.bd lr (s.copyF q a fr k) ∧ Kept (SO lr) w w' := by
  unfold PT.copyE PT.copyF
  by_cases he : s.el = q.el
  · rw [if_pos he]
    rw [← he] at h2
    by_cases hin : a + k ≤ s.n ∧ fr + k ≤ q.n
    · refine (rcopy_in a fr k h h2 hn hn2 hin.1 hin.2).mono ?_
      rintro e w1 ⟨rfl, h1, hk⟩
      rw [if_pos hin, if_pos ⟨he, hin⟩]
      exact ⟨rfl, h1, hk⟩
    · refine (rcopy_out a fr k h h2 hn hn2 (by omega) (by omega) (by omega) (by omega) (by omega) (by omega) (inB_out hin)).mono ?_
      rintro e w1 ⟨rfl, hk⟩
      rw [if_neg hin, if_neg (fun e => hin e.2)]
      exact ⟨rfl, h.kept0 hk, hk.of0 _⟩
  · rw [if_neg he]
    refine (rcopy_arg a fr k h h2 he).mono ?_
    rintro e w1 ⟨rfl, hk⟩
    rw [if_neg (fun e => he e.1)]
    exact ⟨rfl, h.kept0 hk, hk.of0 _⟩

theorem stepped1 {w1 w2 : World} {s' : PT} {lt' lr' : Value} (hs : Stepped w w1 B tp rp mn lt lr s lt' lr' s') (hk : Kept S0 w1 w2) : Stepped w w2 B tp rp mn lt lr s lt' lr' s' :=
  ⟨hs.pair.kept0 hk, hs.kept.then0 hk, hs.own⟩

variable (po pr : Value) (s2 o2 : Bool) (a fr k : Nat) (x : V3) (L : Option Addr) (m c : Nat)
set_option maxRecDepth 100000 in
set_option maxHeartbeats 3200000 in
theorem both_init (v : Nat → V3) (h : PairAt w B tp rp mn lt lr s) (ha : a ≤ 4294967295) (hf : fr ≤ 4294967295) (hk : k ≤ 4294967295) (hL : SlB B w L (m * 3) (vcell v)) (hL0 : L = none → m = 0) (hmB : m * 24 ≤ 140737488351232) (hmc : m ≤ c) :
    Calls Try.prog 24 #[.pointer (some ⟨tp, 0, none⟩), po, .pointer (some ⟨rp, 0, none⟩), pr, .agg #[.int .i64 4, .bool s2, .bool o2, .int .u32 (a : Int), .int .u32 (fr : Int), .int .u32 (k : Int), .int .u8 x.t, .int .u64 x.lo, .int .u64 x.hi, .slice L m c]] w fun e w' => e = .returned (.bool true) ∧ ∃ s' lt' lr', Stepped w w' B tp rp mn lt lr s lt' lr' s' := by
  have hka : Kept S0 w (w.alloc (.cells #[.int .i64 4, .bool s2, .bool o2, .int .u32 (a : Int), .int .u32 (fr : Int), .int .u32 (k : Int), .int .u8 x.t, .int .u64 x.lo, .int .u64 x.hi, .slice L m c] 62)) := (Kept.refl S0 w).alloc _
  have H0 := Lib.hid h
  have H1 := Lib.hid (h.kept0 hka)
  have HB0 := Lib.hid h.hB
  have hB := Blk.new w 62 #[.int .i64 4, .bool s2, .bool o2, .int .u32 (a : Int), .int .u32 (fr : Int), .int .u32 (k : Int), .int .u8 x.t, .int .u64 x.lo, .int .u64 x.hi, .slice L m c]
  have r0 := hB.cell 0
  have r9 := hB.cell 9
  have HB := Lib.hid hB
  have e1 : ∀ z : Int, (z == z) = true := fun z => beq_self_eq_true z
  have hxl : ∀ i, SP tp rp lt lr i → i ≠ w.heap.size := fun i hi => by have := (h.low i hi).2; omega
  have HXL := Lib.hid hxl
  have HL1 := Lib.hid (hL.kept hka h.hB (fun _ e => e.elim))
  have HL0 := Lib.hid hL0
  have hlow : ∀ i, SP tp rp lt lr i → B ≤ i := fun i hi => (h.low i hi).1
  have HLOW := Lib.hid hlow
  clear h hB hxl hL hL0 hlow
  go_enter Try.func24, Try.ntmps24
  go_wp2_with fail
  refine (copyvals_any L m c v _ HL1.out.sl HL0.out hmB).mono ?_
  rintro e w2 ⟨y, rfl, hy, hk2⟩
  obtain ⟨yA, yc, hye, hyc, _, hys⟩ := hy.out
  subst hye
  have hb2 := hk2.blk HB.out (fun x => x)
  have q3 := hb2.cell 3
  have q4 := hb2.cell 4
  have q5 := hb2.cell 5
  have HB2 := Lib.hid hb2
  have HP2 := Lib.hid (H1.out.kept0 hk2)
  have HY2 := Lib.hid hy
  have HYS := Lib.hid hys
  have HL2 := Lib.hid (HL1.out.kept hk2 H1.out.hB (fun _ e => e.elim))
  have HK2 := Lib.hid (hka.then0 hk2)
  have hy1 : ∀ g, (Value.slice yA m yc).ownBlock = some g → ¬ SP tp rp lt lr g := fun g hg hs => by have := (hy.lt g hg).1; have := (H1.out.low g hs).2; omega
  have HY1 := Lib.hid hy1
  clear r0 r9 hb2 hk2 hy hys HB hka H1 HL1 hy1
  go_wp2_with fail
  refine (init_is a fr k yA m yc v HP2.out.tab HP2.out.hn HP2.out.hel HYS.out (by omega) hyc ha hf hk).mono ?_
  rintro e w3 ⟨rfl, hm3, hk3⟩
  have hb3 := hk3.blk HB2.out (fun e => HXL.out _ (.inr (.inr (.inl e))) rfl)
  have t3 := hb3.cell 3
  have t4 := hb3.cell 4
  have t5 := hb3.cell 5
  have t9 := hb3.cell 9
  have HR3 := Lib.hid (HP2.out.ref1 (Kept.so_st hk3))
  have HL3 := Lib.hid (HL2.out.kept hk3 HP2.out.hB (fun i e => HLOW.out i (.inr (.inr (.inl e)))))
  have HK3 := Lib.hid hk3
  have HB3 := Lib.hid hb3
  have HM3 := Lib.hid hm3
  have HY3 := Lib.hid (HY2.out.kept hk3 (fun g hg e => HY1.out g hg (.inr (.inr (.inl e)))))
  clear q3 q4 q5 hk3 hb3 hm3
  go_wp2_with fail
  refine (rinit_all a fr k L m c v HR3.out HP2.out.hn HP2.out.hel HL3.out.sl HL0.out (by omega) hmc ha hf hk).mono ?_
  rintro e w4 ⟨rfl, hm4, hk4⟩
  have hb4 := hk4.blk HB3.out (fun e => HXL.out _ (.inr (.inr (.inr e))) rfl)
  have z9 := hb4.cell 9
  have HST := Lib.hid (HP2.out.step HM3.out (Kept.so_st HK3.out) (.inl rfl) hm4 (Kept.mono hk4 (fun _ e => .inr e)) (.inl rfl) HP2.out.hn)
  have HL4 := Lib.hid (HL3.out.kept hk4 (Nat.le_trans HP2.out.hB HK3.out.size) (fun i e => HLOW.out i (.inr (.inr (.inr e)))))
  have HY4 := Lib.hid (HY3.out.kept hk4 (fun g hg e => HY1.out g hg (.inr (.inr (.inr e)))))
  clear t3 t4 t5 t9 hm4 hk4 hb4 HR3 HL3 HK3 HB3 HM3 HY3
  go_wp2_with fail
  refine (values_same yA L m yc c v v _ (by obtain ⟨_, _, e, _, _, hs⟩ := HY4.out.out; cases e; exact hs) HL4.out.sl (by omega) (fun _ _ => rfl)).mono ?_
  rintro e w5 ⟨rfl, hk5⟩
  have HK5 := Lib.hid hk5
  clear z9 hk5
  go_wp2_with fail
  go_ret
  exact ⟨rfl, _, _, _, stepped1 (stepped0 H0.out HK2.out HST.out) HK5.out⟩

set_option maxRecDepth 100000 in
set_option maxHeartbeats 3200000 in
theorem both_self {tx rx : Nat} (d : Int) (h : PairAt w B tp rp mn lt lr s) (g0 : (d == 0) = false) (g1 : (d == 1) = false) (g2 : (d == 2) = false) (g3 : (d == 3) = false) (g4 : (d == 4) = false) (ha : a ≤ 4294967295) (hf : fr ≤ 4294967295) (hk : k ≤ 4294967295) :
    Calls Try.prog 24 #[.pointer (some ⟨tp, 0, none⟩), .pointer (some ⟨tx, 0, none⟩), .pointer (some ⟨rp, 0, none⟩), .pointer (some ⟨rx, 0, none⟩), .agg #[.int .i64 d, .bool s2, .bool false, .int .u32 (a : Int), .int .u32 (fr : Int), .int .u32 (k : Int), .int .u8 x.t, .int .u64 x.lo, .int .u64 x.hi, .slice L m c]] w fun e w' => e = .returned (.bool true) ∧ ∃ s' lt' lr', Stepped w w' B tp rp mn lt lr s lt' lr' s' := by
  have hka : Kept S0 w (w.alloc (.cells #[.int .i64 d, .bool s2, .bool false, .int .u32 (a : Int), .int .u32 (fr : Int), .int .u32 (k : Int), .int .u8 x.t, .int .u64 x.lo, .int .u64 x.hi, .slice L m c] 62)) := (Kept.refl S0 w).alloc _
  have H0 := Lib.hid h
  have H1 := Lib.hid (h.kept0 hka)
  have hB := Blk.new w 62 #[.int .i64 d, .bool s2, .bool false, .int .u32 (a : Int), .int .u32 (fr : Int), .int .u32 (k : Int), .int .u8 x.t, .int .u64 x.lo, .int .u64 x.hi, .slice L m c]
  have r0 := hB.cell 0
  have r2 := hB.cell 2
  have HB := Lib.hid hB
  have e1 : ∀ z : Int, (z == z) = true := fun z => beq_self_eq_true z
  have hxl : ∀ i, SP tp rp lt lr i → i ≠ w.heap.size := fun i hi => by have := (h.low i hi).2; omega
  have HXL := Lib.hid hxl
  clear h hB hxl
  go_enter Try.func24, Try.ntmps24
  go_wp2_with fail
  clear r0 r2
  have hdd := (Kept.refl S0 (w.alloc (.cells #[.int .i64 d, .bool s2, .bool false, .int .u32 (a : Int), .int .u32 (fr : Int), .int .u32 (k : Int), .int .u8 x.t, .int .u64 x.lo, .int .u64 x.hi, .slice L m c] 62))).drew
  have HK2 := Lib.hid (hka.then0 hdd)
  have HB2 := Lib.hid (hdd.blk HB.out (fun x => x))
  have HP2 := Lib.hid (H1.out.kept0 hdd)

  clear hka hdd HB H1
  generalize w.heap.size = xb at HXL HB2 ⊢
  refine wp_region_R (fun w' => w'.cell? ⟨xb, 3, none⟩ = some (.int .u32 (a : Int)) ∧ w'.cell? ⟨xb, 4, none⟩ = some (.int .u32 (fr : Int)) ∧ w'.cell? ⟨xb, 5, none⟩ = some (.int .u32 (k : Int))) [] (by kernel_rfl) ?_
  generalize (w.alloc (.cells #[.int .i64 d, .bool s2, .bool false, .int .u32 (a : Int), .int .u32 (fr : Int), .int .u32 (k : Int), .int .u8 x.t, .int .u64 x.lo, .int .u64 x.hi, .slice L m c] 62)).drew = w2 at *
  have hS : w2.cell? ⟨xb, 3, none⟩ = some (.int .u32 (a : Int)) ∧ w2.cell? ⟨xb, 4, none⟩ = some (.int .u32 (fr : Int)) ∧ w2.cell? ⟨xb, 5, none⟩ = some (.int .u32 (k : Int)) := ⟨HB2.out.cell 3, HB2.out.cell 4, HB2.out.cell 5⟩
  refine wpAnyR_take 0 (v := ?_) rfl (by kernel_rfl) (by kernel_rfl) (by kernel_rfl) (by kernel_rfl) (fun _ _ _ h => h) hS ⟨by rfl, ?_⟩ ?_
  rotate_left; (intro w hSw; (try dsimp only at hSw); first | (go_simp; done) | (go_simp; with_reducible rfl))
  simp only [List.getElem_toArray, List.getElem_cons_zero, Act.put, List.setIfInBounds_toArray, List.set_cons_zero, List.set_cons_succ]
  refine wpAnyR_take 1 (v := ?_) rfl (by kernel_rfl) (by kernel_rfl) (by kernel_rfl) (by kernel_rfl) (fun _ _ _ h => h) hS ⟨by rfl, ?_⟩ ?_
  rotate_left; (intro w hSw; (try dsimp only at hSw); first | (go_simp; done) | (go_simp; with_reducible rfl))
  simp only [List.getElem_toArray, List.getElem_cons_zero, List.getElem_cons_succ, Act.put, List.setIfInBounds_toArray, List.set_cons_zero, List.set_cons_succ]
  refine wpAnyR_take 2 (v := ?_) rfl (by kernel_rfl) (by kernel_rfl) (by kernel_rfl) (by kernel_rfl) (fun _ _ _ h => h) hS ⟨by rfl, ?_⟩ ?_
  rotate_left; (intro w hSw; (try dsimp only at hSw); first | (go_simp; done) | (go_simp; with_reducible rfl))
  simp only [List.getElem_toArray, List.getElem_cons_zero, List.getElem_cons_succ, Act.put, List.setIfInBounds_toArray, List.set_cons_zero, List.set_cons_succ]
  refine wpAnyR_take 3 (v := ?_) rfl (by kernel_rfl) (by kernel_rfl) (by kernel_rfl) (by kernel_rfl) (fun _ _ _ h => h) hS ⟨by rfl, ?_⟩ ?_
  rotate_left; (intro w hSw; (try dsimp only at hSw); first | (go_simp; done) | (go_simp; with_reducible rfl))
  simp only [List.getElem_toArray, List.getElem_cons_zero, List.getElem_cons_succ, Act.put, List.setIfInBounds_toArray, List.set_cons_zero, List.set_cons_succ]
  refine wpAnyR_take 4 (v := ?_) rfl (by kernel_rfl) (by kernel_rfl) (by kernel_rfl) (by kernel_rfl) (fun _ _ _ h => h) hS ⟨by rfl, ?_⟩ ?_
  rotate_left; (intro w hSw; (try dsimp only at hSw); first | (go_simp; done) | (go_simp; with_reducible rfl))
  simp only [List.getElem_toArray, List.getElem_cons_zero, List.getElem_cons_succ, Act.put, List.setIfInBounds_toArray, List.set_cons_zero, List.set_cons_succ]
  refine wpAnyR_take 5 (v := ?_) rfl (by kernel_rfl) (by kernel_rfl) (by kernel_rfl) (by kernel_rfl) (fun _ _ _ h => h) hS ⟨by rfl, ?_⟩ ?_
  rotate_left; (intro w hSw; (try dsimp only at hSw); first | (go_simp; done) | (go_simp; with_reducible rfl))
  simp only [List.getElem_toArray, List.getElem_cons_zero, List.getElem_cons_succ, Act.put, List.setIfInBounds_toArray, List.set_cons_zero, List.set_cons_succ]
  refine wpAnyR_take 6 (v := ?_) rfl (by kernel_rfl) (by kernel_rfl) (by kernel_rfl) (by kernel_rfl) (fun _ _ _ h => h) hS ⟨by rfl, ?_⟩ ?_
  rotate_left; (intro w hSw; (try dsimp only at hSw); first | (go_simp; done) | (go_simp; with_reducible rfl))
  simp only [List.getElem_toArray, List.getElem_cons_zero, List.getElem_cons_succ, Act.put, List.setIfInBounds_toArray, List.set_cons_zero, List.set_cons_succ]
  refine wpAnyR_take 7 (v := ?_) rfl (by kernel_rfl) (by kernel_rfl) (by kernel_rfl) (by kernel_rfl) (fun _ _ _ h => h) hS ⟨by rfl, ?_⟩ ?_
  rotate_left; (intro w hSw; (try dsimp only at hSw); first | (go_simp; done) | (go_simp; with_reducible rfl))
  simp only [List.getElem_toArray, List.getElem_cons_zero, List.getElem_cons_succ, Act.put, List.setIfInBounds_toArray, List.set_cons_zero, List.set_cons_succ]
  refine wpAnyR_take 9 (v := ?_) rfl (by kernel_rfl) (by kernel_rfl) (by kernel_rfl) (by kernel_rfl) (fun _ _ _ h => h) hS ⟨by rfl, ?_⟩ ?_
  rotate_left; (intro w hSw; (try dsimp only at hSw); first | (go_simp; done) | (go_simp; with_reducible rfl))
  simp only [List.getElem_toArray, List.getElem_cons_zero, List.getElem_cons_succ, Act.put, List.setIfInBounds_toArray, List.set_cons_zero, List.set_cons_succ]
  refine wpAnyR_take 10 (v := ?_) rfl (by kernel_rfl) (by kernel_rfl) (by kernel_rfl) (by kernel_rfl) (fun _ _ _ h => h) hS ⟨by rfl, ?_⟩ ?_
  rotate_left; (intro w hSw; (try dsimp only at hSw); first | (go_simp; done) | (go_simp; with_reducible rfl))
  simp only [List.getElem_toArray, List.getElem_cons_zero, List.getElem_cons_succ, Act.put, List.setIfInBounds_toArray, List.set_cons_zero, List.set_cons_succ]
  refine wpAnyR_take 11 (v := ?_) rfl (by kernel_rfl) (by kernel_rfl) (by kernel_rfl) (by kernel_rfl) (fun _ _ _ h => h) hS ⟨by rfl, ?_⟩ ?_
  rotate_left; (intro w hSw; (try dsimp only at hSw); first | (go_simp; done) | (go_simp; with_reducible rfl))
  simp only [List.getElem_toArray, List.getElem_cons_zero, List.getElem_cons_succ, Act.put, List.setIfInBounds_toArray, List.set_cons_zero, List.set_cons_succ]
  refine wpAnyR_take 12 (v := ?_) rfl (by kernel_rfl) (by kernel_rfl) (by kernel_rfl) (by kernel_rfl) (fun _ _ _ h => h) hS ⟨by rfl, ?_⟩ ?_
  rotate_left; (intro w hSw; (try dsimp only at hSw); first | (go_simp; done) | (go_simp; with_reducible rfl))
  simp only [List.getElem_toArray, List.getElem_cons_zero, List.getElem_cons_succ, Act.put, List.setIfInBounds_toArray, List.set_cons_zero, List.set_cons_succ]
  refine wpAnyR_take 13 (v := ?_) rfl (by kernel_rfl) (by kernel_rfl) (by kernel_rfl) (by kernel_rfl) (fun _ _ _ h => h) hS ⟨by rfl, ?_⟩ ?_
  rotate_left; (intro w hSw; (try dsimp only at hSw); first | (go_simp; done) | (go_simp; with_reducible rfl))
  simp only [List.getElem_toArray, List.getElem_cons_zero, List.getElem_cons_succ, Act.put, List.setIfInBounds_toArray, List.set_cons_zero, List.set_cons_succ]
  refine wpAnyR_take 14 (v := ?_) rfl (by kernel_rfl) (by kernel_rfl) (by kernel_rfl) (by kernel_rfl) (fun _ _ _ h => h) hS ⟨by rfl, ?_⟩ ?_
  rotate_left; (intro w hSw; (try dsimp only at hSw); first | (go_simp; done) | (go_simp; with_reducible rfl))
  simp only [List.getElem_toArray, List.getElem_cons_zero, List.getElem_cons_succ, Act.put, List.setIfInBounds_toArray, List.set_cons_zero, List.set_cons_succ]
  refine wpAnyR_take 15 (v := ?_) rfl (by kernel_rfl) (by kernel_rfl) (by kernel_rfl) (by kernel_rfl) (fun _ _ _ h => h) hS ⟨by rfl, ?_⟩ ?_
  rotate_left; (intro w hSw; (try dsimp only at hSw); first | (go_simp; done) | (go_simp; with_reducible rfl))
  simp only [List.getElem_toArray, List.getElem_cons_zero, List.getElem_cons_succ, Act.put, List.setIfInBounds_toArray, List.set_cons_zero, List.set_cons_succ]
  refine wpAnyR_take 16 (v := ?_) rfl (by kernel_rfl) (by kernel_rfl) (by kernel_rfl) (by kernel_rfl) (fun _ _ _ h => h) hS ⟨by rfl, ?_⟩ ?_
  rotate_left; (intro w hSw; (try dsimp only at hSw); first | (go_simp; done) | (go_simp; with_reducible rfl))
  simp only [List.getElem_toArray, List.getElem_cons_zero, List.getElem_cons_succ, Act.put, List.setIfInBounds_toArray, List.set_cons_zero, List.set_cons_succ]
  refine wpAnyR_one 8 rfl (by kernel_rfl) (fun K hK1 => ?_)
  go_simp
  go_at_call 11
  refine (copy_is a fr k HP2.out.tab HP2.out.tab HP2.out.hn HP2.out.hn ha hf hk).mono ?_
  rintro e w3 ⟨rfl, hm3, hk3⟩
  have hb3 := hk3.blk HB2.out (fun e => HXL.out _ (.inr (.inr (.inl e))) rfl)
  have hS3 : w3.cell? ⟨xb, 3, none⟩ = some (.int .u32 (a : Int)) ∧ w3.cell? ⟨xb, 4, none⟩ = some (.int .u32 (fr : Int)) ∧ w3.cell? ⟨xb, 5, none⟩ = some (.int .u32 (k : Int)) := ⟨hb3.cell 3, hb3.cell 4, hb3.cell 5⟩
  have HR3 := Lib.hid (HP2.out.ref1 (Kept.so_st hk3))

  have HK3 := Lib.hid hk3
  have HB3 := Lib.hid hb3
  have HM3 := Lib.hid hm3
  refine hK1.out _ _ (fun _ => hS3) ?_
  clear hK1 K hS HB2 hk3 hb3 hm3
  refine wpAnyR_one 17 rfl (by kernel_rfl) (fun K hK2 => ?_)
  go_simp
  go_at_call 41
  refine (rcopy_is a fr k HR3.out HR3.out HP2.out.hn HP2.out.hn ha hf hk).mono ?_
  rintro e w4 ⟨rfl, hm4, hk4⟩
  have hb4 := hk4.blk HB3.out (fun e => HXL.out _ (.inr (.inr (.inr e))) rfl)
  have hS4 : w4.cell? ⟨xb, 3, none⟩ = some (.int .u32 (a : Int)) ∧ w4.cell? ⟨xb, 4, none⟩ = some (.int .u32 (fr : Int)) ∧ w4.cell? ⟨xb, 5, none⟩ = some (.int .u32 (k : Int)) := ⟨hb4.cell 3, hb4.cell 4, hb4.cell 5⟩
  have HST := Lib.hid (HP2.out.step HM3.out (Kept.so_st HK3.out) (.inl rfl) hm4 (Kept.mono hk4 (fun _ e => .inr e)) (.inl rfl) HP2.out.hn)
  refine hK2.out _ _ (fun _ => hS4) ?_
  clear hK2 K hS3 HK3 HB3 HM3 HR3 hb4 hm4 hk4
  refine wpAnyR_take 18 (v := ?_) rfl (by kernel_rfl) (by kernel_rfl) (by kernel_rfl) (by kernel_rfl) (fun _ _ _ h => h) hS4 ⟨by rfl, ?_⟩ ?_
  rotate_left; (intro w hSw; (try dsimp only at hSw); first | (go_simp; done) | (go_simp; with_reducible rfl))
  simp only [List.getElem_toArray, List.getElem_cons_zero, List.getElem_cons_succ, Act.put, List.setIfInBounds_toArray, List.set_cons_zero, List.set_cons_succ]
  refine wpAnyR_take 19 (v := ?_) rfl (by kernel_rfl) (by kernel_rfl) (by kernel_rfl) (by kernel_rfl) (fun _ _ _ h => h) hS4 ⟨by rfl, ?_⟩ ?_
  rotate_left; (intro w hSw; (try dsimp only at hSw); first | (go_simp; done) | (go_simp; with_reducible rfl))
  simp only [List.getElem_toArray, List.getElem_cons_zero, List.getElem_cons_succ, Act.put, List.setIfInBounds_toArray, List.set_cons_zero, List.set_cons_succ]
  refine wpAnyR_done (by kernel_rfl) ?_ _
  clear hS4
  go_wp2_with fail
  go_ret
  exact ⟨rfl, _, _, _, stepped0 H0.out HK2.out HST.out⟩

set_option maxRecDepth 100000 in
set_option maxHeartbeats 3200000 in
theorem both_other (d : Int) (h : PairAt w B tp rp mn lt lr s) (hq : PairAt w B tq rq mn2 lt2 lr2 q) (dis : ∀ i, SP tp rp lt lr i → ¬ SP tq rq lt2 lr2 i) (g0 : (d == 0) = false) (g1 : (d == 1) = false) (g2 : (d == 2) = false) (g3 : (d == 3) = false) (g4 : (d == 4) = false) (ha : a ≤ 4294967295) (hf : fr ≤ 4294967295) (hk : k ≤ 4294967295) :
    Calls Try.prog 24 #[.pointer (some ⟨tp, 0, none⟩), .pointer (some ⟨tq, 0, none⟩), .pointer (some ⟨rp, 0, none⟩), .pointer (some ⟨rq, 0, none⟩), .agg #[.int .i64 d, .bool s2, .bool true, .int .u32 (a : Int), .int .u32 (fr : Int), .int .u32 (k : Int), .int .u8 x.t, .int .u64 x.lo, .int .u64 x.hi, .slice L m c]] w fun e w' => e = .returned (.bool true) ∧ ∃ s' lt' lr', Stepped w w' B tp rp mn lt lr s lt' lr' s' := by
  have hka : Kept S0 w (w.alloc (.cells #[.int .i64 d, .bool s2, .bool true, .int .u32 (a : Int), .int .u32 (fr : Int), .int .u32 (k : Int), .int .u8 x.t, .int .u64 x.lo, .int .u64 x.hi, .slice L m c] 62)) := (Kept.refl S0 w).alloc _
  have H0 := Lib.hid h
  have H1 := Lib.hid (h.kept0 hka)
  have Q1 := Lib.hid (hq.kept0 hka)
  have DIS := Lib.hid dis
  clear hq dis
  have hB := Blk.new w 62 #[.int .i64 d, .bool s2, .bool true, .int .u32 (a : Int), .int .u32 (fr : Int), .int .u32 (k : Int), .int .u8 x.t, .int .u64 x.lo, .int .u64 x.hi, .slice L m c]
  have r0 := hB.cell 0
  have r2 := hB.cell 2
  have HB := Lib.hid hB
  have e1 : ∀ z : Int, (z == z) = true := fun z => beq_self_eq_true z
  have hxl : ∀ i, SP tp rp lt lr i → i ≠ w.heap.size := fun i hi => by have := (h.low i hi).2; omega
  have HXL := Lib.hid hxl
  clear h hB hxl
  go_enter Try.func24, Try.ntmps24
  go_wp2_with fail
  clear r0 r2
  have hdd := (Kept.refl S0 (w.alloc (.cells #[.int .i64 d, .bool s2, .bool true, .int .u32 (a : Int), .int .u32 (fr : Int), .int .u32 (k : Int), .int .u8 x.t, .int .u64 x.lo, .int .u64 x.hi, .slice L m c] 62))).drew
  have HK2 := Lib.hid (hka.then0 hdd)
  have HB2 := Lib.hid (hdd.blk HB.out (fun x => x))
  have HP2 := Lib.hid (H1.out.kept0 hdd)
  have HQ2 := Lib.hid (Q1.out.kept0 hdd)
  clear hka hdd HB H1
  generalize w.heap.size = xb at HXL HB2 ⊢
  refine wp_region_R (fun w' => w'.cell? ⟨xb, 3, none⟩ = some (.int .u32 (a : Int)) ∧ w'.cell? ⟨xb, 4, none⟩ = some (.int .u32 (fr : Int)) ∧ w'.cell? ⟨xb, 5, none⟩ = some (.int .u32 (k : Int))) [] (by kernel_rfl) ?_
  generalize (w.alloc (.cells #[.int .i64 d, .bool s2, .bool true, .int .u32 (a : Int), .int .u32 (fr : Int), .int .u32 (k : Int), .int .u8 x.t, .int .u64 x.lo, .int .u64 x.hi, .slice L m c] 62)).drew = w2 at *
  have hS : w2.cell? ⟨xb, 3, none⟩ = some (.int .u32 (a : Int)) ∧ w2.cell? ⟨xb, 4, none⟩ = some (.int .u32 (fr : Int)) ∧ w2.cell? ⟨xb, 5, none⟩ = some (.int .u32 (k : Int)) := ⟨HB2.out.cell 3, HB2.out.cell 4, HB2.out.cell 5⟩
  refine wpAnyR_take 0 (v := ?_) rfl (by kernel_rfl) (by kernel_rfl) (by kernel_rfl) (by kernel_rfl) (fun _ _ _ h => h) hS ⟨by rfl, ?_⟩ ?_
  rotate_left; (intro w hSw; (try dsimp only at hSw); first | (go_simp; done) | (go_simp; with_reducible rfl))
  simp only [List.getElem_toArray, List.getElem_cons_zero, Act.put, List.setIfInBounds_toArray, List.set_cons_zero, List.set_cons_succ]
  refine wpAnyR_take 1 (v := ?_) rfl (by kernel_rfl) (by kernel_rfl) (by kernel_rfl) (by kernel_rfl) (fun _ _ _ h => h) hS ⟨by rfl, ?_⟩ ?_
  rotate_left; (intro w hSw; (try dsimp only at hSw); first | (go_simp; done) | (go_simp; with_reducible rfl))
  simp only [List.getElem_toArray, List.getElem_cons_zero, List.getElem_cons_succ, Act.put, List.setIfInBounds_toArray, List.set_cons_zero, List.set_cons_succ]
  refine wpAnyR_take 2 (v := ?_) rfl (by kernel_rfl) (by kernel_rfl) (by kernel_rfl) (by kernel_rfl) (fun _ _ _ h => h) hS ⟨by rfl, ?_⟩ ?_
  rotate_left; (intro w hSw; (try dsimp only at hSw); first | (go_simp; done) | (go_simp; with_reducible rfl))
  simp only [List.getElem_toArray, List.getElem_cons_zero, List.getElem_cons_succ, Act.put, List.setIfInBounds_toArray, List.set_cons_zero, List.set_cons_succ]
  refine wpAnyR_take 3 (v := ?_) rfl (by kernel_rfl) (by kernel_rfl) (by kernel_rfl) (by kernel_rfl) (fun _ _ _ h => h) hS ⟨by rfl, ?_⟩ ?_
  rotate_left; (intro w hSw; (try dsimp only at hSw); first | (go_simp; done) | (go_simp; with_reducible rfl))
  simp only [List.getElem_toArray, List.getElem_cons_zero, List.getElem_cons_succ, Act.put, List.setIfInBounds_toArray, List.set_cons_zero, List.set_cons_succ]
  refine wpAnyR_take 4 (v := ?_) rfl (by kernel_rfl) (by kernel_rfl) (by kernel_rfl) (by kernel_rfl) (fun _ _ _ h => h) hS ⟨by rfl, ?_⟩ ?_
  rotate_left; (intro w hSw; (try dsimp only at hSw); first | (go_simp; done) | (go_simp; with_reducible rfl))
  simp only [List.getElem_toArray, List.getElem_cons_zero, List.getElem_cons_succ, Act.put, List.setIfInBounds_toArray, List.set_cons_zero, List.set_cons_succ]
  refine wpAnyR_take 5 (v := ?_) rfl (by kernel_rfl) (by kernel_rfl) (by kernel_rfl) (by kernel_rfl) (fun _ _ _ h => h) hS ⟨by rfl, ?_⟩ ?_
  rotate_left; (intro w hSw; (try dsimp only at hSw); first | (go_simp; done) | (go_simp; with_reducible rfl))
  simp only [List.getElem_toArray, List.getElem_cons_zero, List.getElem_cons_succ, Act.put, List.setIfInBounds_toArray, List.set_cons_zero, List.set_cons_succ]
  refine wpAnyR_take 6 (v := ?_) rfl (by kernel_rfl) (by kernel_rfl) (by kernel_rfl) (by kernel_rfl) (fun _ _ _ h => h) hS ⟨by rfl, ?_⟩ ?_
  rotate_left; (intro w hSw; (try dsimp only at hSw); first | (go_simp; done) | (go_simp; with_reducible rfl))
  simp only [List.getElem_toArray, List.getElem_cons_zero, List.getElem_cons_succ, Act.put, List.setIfInBounds_toArray, List.set_cons_zero, List.set_cons_succ]
  refine wpAnyR_take 7 (v := ?_) rfl (by kernel_rfl) (by kernel_rfl) (by kernel_rfl) (by kernel_rfl) (fun _ _ _ h => h) hS ⟨by rfl, ?_⟩ ?_
  rotate_left; (intro w hSw; (try dsimp only at hSw); first | (go_simp; done) | (go_simp; with_reducible rfl))
  simp only [List.getElem_toArray, List.getElem_cons_zero, List.getElem_cons_succ, Act.put, List.setIfInBounds_toArray, List.set_cons_zero, List.set_cons_succ]
  refine wpAnyR_take 9 (v := ?_) rfl (by kernel_rfl) (by kernel_rfl) (by kernel_rfl) (by kernel_rfl) (fun _ _ _ h => h) hS ⟨by rfl, ?_⟩ ?_
  rotate_left; (intro w hSw; (try dsimp only at hSw); first | (go_simp; done) | (go_simp; with_reducible rfl))
  simp only [List.getElem_toArray, List.getElem_cons_zero, List.getElem_cons_succ, Act.put, List.setIfInBounds_toArray, List.set_cons_zero, List.set_cons_succ]
  refine wpAnyR_take 10 (v := ?_) rfl (by kernel_rfl) (by kernel_rfl) (by kernel_rfl) (by kernel_rfl) (fun _ _ _ h => h) hS ⟨by rfl, ?_⟩ ?_
  rotate_left; (intro w hSw; (try dsimp only at hSw); first | (go_simp; done) | (go_simp; with_reducible rfl))
  simp only [List.getElem_toArray, List.getElem_cons_zero, List.getElem_cons_succ, Act.put, List.setIfInBounds_toArray, List.set_cons_zero, List.set_cons_succ]
  refine wpAnyR_take 11 (v := ?_) rfl (by kernel_rfl) (by kernel_rfl) (by kernel_rfl) (by kernel_rfl) (fun _ _ _ h => h) hS ⟨by rfl, ?_⟩ ?_
  rotate_left; (intro w hSw; (try dsimp only at hSw); first | (go_simp; done) | (go_simp; with_reducible rfl))
  simp only [List.getElem_toArray, List.getElem_cons_zero, List.getElem_cons_succ, Act.put, List.setIfInBounds_toArray, List.set_cons_zero, List.set_cons_succ]
  refine wpAnyR_take 12 (v := ?_) rfl (by kernel_rfl) (by kernel_rfl) (by kernel_rfl) (by kernel_rfl) (fun _ _ _ h => h) hS ⟨by rfl, ?_⟩ ?_
  rotate_left; (intro w hSw; (try dsimp only at hSw); first | (go_simp; done) | (go_simp; with_reducible rfl))
  simp only [List.getElem_toArray, List.getElem_cons_zero, List.getElem_cons_succ, Act.put, List.setIfInBounds_toArray, List.set_cons_zero, List.set_cons_succ]
  refine wpAnyR_take 13 (v := ?_) rfl (by kernel_rfl) (by kernel_rfl) (by kernel_rfl) (by kernel_rfl) (fun _ _ _ h => h) hS ⟨by rfl, ?_⟩ ?_
  rotate_left; (intro w hSw; (try dsimp only at hSw); first | (go_simp; done) | (go_simp; with_reducible rfl))
  simp only [List.getElem_toArray, List.getElem_cons_zero, List.getElem_cons_succ, Act.put, List.setIfInBounds_toArray, List.set_cons_zero, List.set_cons_succ]
  refine wpAnyR_take 14 (v := ?_) rfl (by kernel_rfl) (by kernel_rfl) (by kernel_rfl) (by kernel_rfl) (fun _ _ _ h => h) hS ⟨by rfl, ?_⟩ ?_
  rotate_left; (intro w hSw; (try dsimp only at hSw); first | (go_simp; done) | (go_simp; with_reducible rfl))
  simp only [List.getElem_toArray, List.getElem_cons_zero, List.getElem_cons_succ, Act.put, List.setIfInBounds_toArray, List.set_cons_zero, List.set_cons_succ]
  refine wpAnyR_take 15 (v := ?_) rfl (by kernel_rfl) (by kernel_rfl) (by kernel_rfl) (by kernel_rfl) (fun _ _ _ h => h) hS ⟨by rfl, ?_⟩ ?_
  rotate_left; (intro w hSw; (try dsimp only at hSw); first | (go_simp; done) | (go_simp; with_reducible rfl))
  simp only [List.getElem_toArray, List.getElem_cons_zero, List.getElem_cons_succ, Act.put, List.setIfInBounds_toArray, List.set_cons_zero, List.set_cons_succ]
  refine wpAnyR_take 16 (v := ?_) rfl (by kernel_rfl) (by kernel_rfl) (by kernel_rfl) (by kernel_rfl) (fun _ _ _ h => h) hS ⟨by rfl, ?_⟩ ?_
  rotate_left; (intro w hSw; (try dsimp only at hSw); first | (go_simp; done) | (go_simp; with_reducible rfl))
  simp only [List.getElem_toArray, List.getElem_cons_zero, List.getElem_cons_succ, Act.put, List.setIfInBounds_toArray, List.set_cons_zero, List.set_cons_succ]
  refine wpAnyR_one 8 rfl (by kernel_rfl) (fun K hK1 => ?_)
  go_simp
  go_at_call 11
  refine (copy_is a fr k HP2.out.tab HQ2.out.tab HP2.out.hn HQ2.out.hn ha hf hk).mono ?_
  rintro e w3 ⟨rfl, hm3, hk3⟩
  have hb3 := hk3.blk HB2.out (fun e => HXL.out _ (.inr (.inr (.inl e))) rfl)
  have hS3 : w3.cell? ⟨xb, 3, none⟩ = some (.int .u32 (a : Int)) ∧ w3.cell? ⟨xb, 4, none⟩ = some (.int .u32 (fr : Int)) ∧ w3.cell? ⟨xb, 5, none⟩ = some (.int .u32 (k : Int)) := ⟨hb3.cell 3, hb3.cell 4, hb3.cell 5⟩
  have HR3 := Lib.hid (HP2.out.ref1 (Kept.so_st hk3))
  have HQ3 := Lib.hid (HQ2.out.away hk3 (fun i hi hs => DIS.out i (.inr (.inr (.inl hi))) hs))
  have HK3 := Lib.hid hk3
  have HB3 := Lib.hid hb3
  have HM3 := Lib.hid hm3
  refine hK1.out _ _ (fun _ => hS3) ?_
  clear hK1 K hS HB2 hk3 hb3 hm3
  refine wpAnyR_one 17 rfl (by kernel_rfl) (fun K hK2 => ?_)
  go_simp
  go_at_call 41
  refine (rcopy_is a fr k HR3.out HQ3.out.ref HP2.out.hn HQ2.out.hn ha hf hk).mono ?_
  rintro e w4 ⟨rfl, hm4, hk4⟩
  have hb4 := hk4.blk HB3.out (fun e => HXL.out _ (.inr (.inr (.inr e))) rfl)
  have hS4 : w4.cell? ⟨xb, 3, none⟩ = some (.int .u32 (a : Int)) ∧ w4.cell? ⟨xb, 4, none⟩ = some (.int .u32 (fr : Int)) ∧ w4.cell? ⟨xb, 5, none⟩ = some (.int .u32 (k : Int)) := ⟨hb4.cell 3, hb4.cell 4, hb4.cell 5⟩
  have HST := Lib.hid (HP2.out.step HM3.out (Kept.so_st HK3.out) (.inl rfl) hm4 (Kept.mono hk4 (fun _ e => .inr e)) (.inl rfl) HP2.out.hn)
  refine hK2.out _ _ (fun _ => hS4) ?_
  clear hK2 K hS3 HK3 HB3 HM3 HR3 hb4 hm4 hk4
  refine wpAnyR_take 18 (v := ?_) rfl (by kernel_rfl) (by kernel_rfl) (by kernel_rfl) (by kernel_rfl) (fun _ _ _ h => h) hS4 ⟨by rfl, ?_⟩ ?_
  rotate_left; (intro w hSw; (try dsimp only at hSw); first | (go_simp; done) | (go_simp; with_reducible rfl))
  simp only [List.getElem_toArray, List.getElem_cons_zero, List.getElem_cons_succ, Act.put, List.setIfInBounds_toArray, List.set_cons_zero, List.set_cons_succ]
  refine wpAnyR_take 19 (v := ?_) rfl (by kernel_rfl) (by kernel_rfl) (by kernel_rfl) (by kernel_rfl) (fun _ _ _ h => h) hS4 ⟨by rfl, ?_⟩ ?_
  rotate_left; (intro w hSw; (try dsimp only at hSw); first | (go_simp; done) | (go_simp; with_reducible rfl))
  simp only [List.getElem_toArray, List.getElem_cons_zero, List.getElem_cons_succ, Act.put, List.setIfInBounds_toArray, List.set_cons_zero, List.set_cons_succ]
  refine wpAnyR_done (by kernel_rfl) ?_ _
  clear hS4
  go_wp2_with fail
  go_ret
  exact ⟨rfl, _, _, _, stepped0 H0.out HK2.out HST.out⟩
end
end Go.Proofs.Ytpeekldngelkkaa
