/- What the proofs lean on, part 3 of Ty. No condition. -/
import Derived.Test.YtlnkdnmeikpckaaGreatMSta
import Derived.Test.YtlnkdnmeikpckaaGreatMStb
import Derived.Test.YtlnkdnmeikpckaaGreatMStd
import Derived.Test.YtlnkdnmeikpckaaGreatMSte
import Derived.Test.YtlnkdnmeikpckaaGreatMStg
import Derived.Test.YtlnkdnmeikpckaaGreatMSth
import Derived.Test.YtlnkdnmeikpckaaGreatMStl
import Derived.Test.YtlnkdnmeikpckaaGreatMTya
import Derived.Test.YtlnkdnmeikpckaaGreatMTyb
namespace Go.Proofs.YtlnkdnmeikpckaaGreat
open Go.RowKit
set_option maxRecDepth 100000
/-- How many there are of a kind. -/
def PSt.sz (P : PSt) (k : Nat) : Nat := if k = 0 then P.nf else if k = 1 then P.nt else if k = 2 then P.nm else P.ng
def expB (P : PSt) (k a : Int) : Bool := decide (k ≤ 3) && inA a (P.sz k.toNat)
def instB (P : PSt) (p : PIn) : Bool :=
  belowB (p.a 0).f (p.a 0).n P.nf && (belowB (p.a 1).f (p.a 1).n P.nt && (belowB (p.a 2).f (p.a 2).n P.nm && (belowB (p.a 3).f (p.a 3).n P.ng && (belowB (p.a 4).f (p.a 4).n P.ne && (belowB (p.a 5).f (p.a 5).n P.nd && (List.range p.en).all fun j => expB P (p.ek j) (p.ea j))))))
def globOk (nf : Nat) (p : PGl) : Bool := (p.x.t == p.t) && rightB nf p.x
/-- Is a store typed? -/
def typedB (P : PSt) : Bool :=
  ((List.range P.nt).all fun i => allB P.nf (P.T i).f (P.T i).n) && (((List.range P.ng).all fun i => globOk P.nf (P.G i)) && (((List.range P.ne).all fun i => allB P.nf (P.E i).f (P.E i).n) && ((List.range P.ni).all fun i => instB P (P.I i))))
theorem rall_true {n : Nat} {f : Nat → Bool} (h : ∀ i, i < n → f i = true) : (List.range n).all f = true := by rw [List.all_eq_true]; exact fun i hi => h i (List.mem_range.1 hi)
theorem rall_false {n i : Nat} {f : Nat → Bool} (hi : i < n) (h : f i = false) : (List.range n).all f = false := by rw [List.all_eq_false]; exact ⟨i, List.mem_range.2 hi, by rw [h]; simp⟩
theorem typed_1 {P : PSt} {i : Nat} (hi : i < P.nt) (h : allB P.nf (P.T i).f (P.T i).n = false) : typedB P = false := by unfold typedB; rw [rall_false hi h]; rfl
theorem typed_2 {P : PSt} {i : Nat} (hi : i < P.ng) (h : globOk P.nf (P.G i) = false) : typedB P = false := by unfold typedB; rw [rall_false (n := P.ng) hi h]; simp
theorem typed_3 {P : PSt} {i : Nat} (hi : i < P.ne) (h : allB P.nf (P.E i).f (P.E i).n = false) : typedB P = false := by unfold typedB; rw [rall_false (n := P.ne) hi h]; simp
theorem typed_4 {P : PSt} {i : Nat} (hi : i < P.ni) (h : instB P (P.I i) = false) : typedB P = false := by unfold typedB; rw [rall_false (n := P.ni) hi h]; simp
theorem typed_t {P : PSt} (h1 : ∀ i, i < P.nt → allB P.nf (P.T i).f (P.T i).n = true) (h2 : ∀ i, i < P.ng → globOk P.nf (P.G i) = true) (h3 : ∀ i, i < P.ne → allB P.nf (P.E i).f (P.E i).n = true) (h4 : ∀ i, i < P.ni → instB P (P.I i) = true) : typedB P = true := by
  unfold typedB; rw [rall_true h1, rall_true h2, rall_true h3, rall_true h4]; rfl
/-- Nothing that was there has changed: and what follows of lists. -/
structure KS (w w' : World) : Prop where
  k : Kept S0 w w'
theorem KS.then0 {w w1 w2 : World} (h : KS w w1) (k : Kept S0 w1 w2) : KS w w2 := ⟨h.k.then0 k⟩
theorem KS.sl {w w' : World} (h : KS w w') {bytes : Nat} {A : Option Addr} {n c : Nat} {F : Nat → Int} (hl : LSl w 1 bytes A n c (intV F)) : Sl w' A n (intV F) := by
  have h2 := (hl.kept h.k).sl
  rwa [Nat.mul_one] at h2
section
variable {B sb : Nat} {lab : Nat → Nat} {w : World} {P : PSt} {v : SV}
set_option maxRecDepth 100000 in
set_option maxHeartbeats 20000000 in
theorem typed_any (h : SAt B lab w sb P v) (hl : P.Le 60) :
    Calls Tryz.prog 21 #[.pointer (some ⟨sb, 0, none⟩)] w fun e w' => e = .returned (.bool (typedB P)) ∧ Kept S0 w w' := by
  have hka : Kept S0 w (w.alloc (.cells #[.pointer (some ⟨sb, 0, none⟩)] 39)) := (Kept.refl S0 w).alloc _
  have HX := Lib.hid (Blk.new w 39 #[.pointer (some ⟨sb, 0, none⟩)])
  have HS := Lib.hid (h.kept0 hka)
  have HK := Lib.hid hka
  have l0 := hl.f
  have l1 := hl.t
  have l2 := hl.m
  have l3 := hl.g
  have l4 := hl.e
  have l5 := hl.d
  have l6 := hl.i
  clear h hka hl
  obtain ⟨A0, A1, A2, A3, A4, A5, A6, c0, c1, c2, c3, c4, c5, c6, hob, e0, e1, e2, e3, e4, e5, e6⟩ := HS.out.obj
  have E1 := Lib.hid e1
  have E3 := Lib.hid e3
  have E4 := Lib.hid e4
  have E6 := Lib.hid e6
  have HB := Lib.hid hob
  clear e0 e1 e2 e3 e4 e5 e6 hob
  go_enter Tryz.func21, Tryz.ntmps21
  go_wp2_with fail
  generalize hxb : w.heap.size = xb at *
  generalize hwa : w.alloc (.cells #[.pointer (some ⟨sb, 0, none⟩)] 39) = wa at *
  clear hwa
  have k0 : wa.cell? ⟨sb, 0, none⟩ = some (.bool true) := HB.out.cell 0
  have x0 : wa.cell? ⟨xb, 0, none⟩ = some (.pointer (some ⟨sb, 0, none⟩)) := HX.out.cell 0
  refine (off_made _ _ k0).mono ?_
  rintro e w2 ⟨rfl, rfl⟩
  have k2 : wa.cell? ⟨sb, 2, none⟩ = some (.slice A1 P.nt c1) := HB.out.cell 2
  clear k0
  go_wp2_with fail
  go_loopw [24] (fun i wr => ∃ k : Nat, k ≤ P.nt ∧ i = .int .i64 (k : Int) ∧ (∀ j, j < k → allB P.nf (P.T j).f (P.T j).n = true) ∧ Kept S0 wa wr) (fun i _ => P.nt - (intOf i).toNat)
  case atStart => exact ⟨0, by omega, rfl, fun j hj => absurd hj (by omega), Kept.refl S0 wa⟩
  case round =>
    obtain ⟨k, hk, rfl, hok, hkw⟩ := hrel
    clear k2 x0
    have HOK := Lib.hid hok
    have HKW := Lib.hid hkw
    clear hok hkw
    by_cases hlt : k < P.nt
    · have HS1 := Lib.hid (HS.out.kept0 HKW.out)
      obtain ⟨tb, mn, lt, f0, ht, _, _⟩ := (HS1.out.tb k hlt).ex
      have hown := HS1.out.ls.t
      rw [E1.out] at hown
      obtain ⟨g, cc, hsl, _, _⟩ := hown.is_some (by omega)
      cases hsl
      have q0 := (hown.rowcell (j := k) (by omega)).trans (congrArg some f0)
      have i0 : (0 : Int) ≤ (k : Int) := by omega
      have i1 : (k : Int) < (P.nt : Int) := by omega
      have HT := Lib.hid ht
      clear ht hown f0
      go_wp2_with fail
      refine (T20.all_made HT.out (HS1.out.tb k hlt).hn).mono ?_
      rintro e w3 ⟨y, rfl, hy, hk3⟩
      obtain ⟨yA, yc, hye, _, _, hys⟩ := hy.out
      subst hye
      have HC := Lib.hid (cl1_any sb xb A0 P.nf c0 yA (P.T k).n yc (P.T k).f w3 (keep0 (HKW.out.then0 hk3) (HX.out.cell 0)) (keep0 (HKW.out.then0 hk3) (HB.out.cell 1)) (by omega) hys (by have := (HS1.out.tb k hlt).hn; omega) (HS1.out.tb k hlt).ok)
      have HK3 := Lib.hid (HKW.out.then0 hk3)
      clear hk3 hy hys q0
      go_wp2_with fail
      refine HC.out.mono ?_
      rintro e w4 ⟨rfl, hk4⟩
      have HK4 := Lib.hid (HK3.out.then0 hk4)
      clear hk4
      cases hc : allB P.nf (P.T k).f (P.T k).n with
      | true =>
        have HCC := Lib.hid hc
        clear hc
        go_wp2_with fail
        go_roundw
        case rel => exact ⟨k + 1, by omega, by go_num, fun j hj => by
          rcases Nat.lt_or_ge j k with h | h
          · exact HOK.out j h
          · obtain rfl : j = k := by omega
            exact HCC.out, HK4.out⟩
        case measure => simp [intOf]; omega
      | false =>
        have HCC := Lib.hid hc
        clear hc
        go_wp2_with fail
        go_ret
        exact ⟨ret_bool (by rw [typed_1 hlt HCC.out]), HK.out.then0 HK4.out⟩
    · obtain rfl : k = P.nt := by omega
      have x1 := keep0 HKW.out (HX.out.cell 0)
      have k4 : wr.cell? ⟨sb, 4, none⟩ = some (.slice A3 P.ng c3) := keep0 HKW.out (HB.out.cell 4)
      obtain ⟨wz, hwz⟩ : ∃ wz, wz = wr := ⟨_, rfl⟩
      subst hwz
      have OK1 := HOK
      have HKZ := HKW
      clear HOK HKW
      have i1 : ¬ ((P.nt : Int) < (P.nt : Int)) := by omega
      go_wp2_with fail
      clear i1
      go_loopw [40] (fun i wr => ∃ k : Nat, k ≤ P.ng ∧ i = .int .i64 (k : Int) ∧ (∀ j, j < k → globOk P.nf (P.G j) = true) ∧ Kept S0 wa wr) (fun i _ => P.ng - (intOf i).toNat)
      case atStart => exact ⟨0, by omega, rfl, fun j hj => absurd hj (by omega), HKZ.out⟩
      case round =>
        obtain ⟨k, hk, rfl, hok, hkw⟩ := hrel
        clear k4 x1
        have HOK := Lib.hid hok
        have HKW := Lib.hid hkw
        clear hok hkw hlt
        by_cases hlt : k < P.ng
        · have HS1 := Lib.hid (HS.out.kept0 HKW.out)
          have hgl := HS1.out.st.gl k hlt
          have hown := HS1.out.ls.g
          rw [E3.out] at hown
          obtain ⟨g, cc, hsl, _, _⟩ := hown.is_some (by omega)
          cases hsl
          have q0 := (hown.rowcell (j := k * 5) (by omega)).trans (congrArg some hgl.f0)
          have q1 := (hown.rowcell (j := k * 5 + 1) (by omega)).trans (congrArg some hgl.f1)
          have q2 := (hown.rowcell (j := k * 5 + 2) (by omega)).trans (congrArg some hgl.f2)
          have q3 := (hown.rowcell (j := k * 5 + 3) (by omega)).trans (congrArg some hgl.f3)
          have q4 := (hown.rowcell (j := k * 5 + 4) (by omega)).trans (congrArg some hgl.f4)
          have i0 : (0 : Int) ≤ (k : Int) := by omega
          have i1 : (k : Int) < (P.ng : Int) := by omega
          have HOKX := Lib.hid hgl.ok
          have hal : Kept S0 wr (wr.alloc (.cells #[.int .u8 (P.G k).t, .bool (P.G k).m, .int .u8 (P.G k).x.t, .int .u64 (P.G k).x.lo, .int .u64 (P.G k).x.hi] 149)) := (Kept.refl S0 wr).alloc _
          have hbx := Blk.new wr 149 #[.int .u8 (P.G k).t, .bool (P.G k).m, .int .u8 (P.G k).x.t, .int .u64 (P.G k).x.lo, .int .u64 (P.G k).x.hi]
          have y0 := hbx.cell 0
          have y2 := hbx.cell 2
          have y3 : (wr.alloc (.cells #[.int .u8 (P.G k).t, .bool (P.G k).m, .int .u8 (P.G k).x.t, .int .u64 (P.G k).x.lo, .int .u64 (P.G k).x.hi] 149)).cell? ⟨wr.heap.size, 2 + 1, none⟩ = some (.int .u64 (P.G k).x.lo) := hbx.cell 3
          have y4 : (wr.alloc (.cells #[.int .u8 (P.G k).t, .bool (P.G k).m, .int .u8 (P.G k).x.t, .int .u64 (P.G k).x.lo, .int .u64 (P.G k).x.hi] 149)).cell? ⟨wr.heap.size, 2 + 2, none⟩ = some (.int .u64 (P.G k).x.hi) := hbx.cell 4
          have x2 := keep0 (HKW.out.then0 hal) (HX.out.cell 0)
          have HC := Lib.hid (typedv_any sb A0 P.nf c0 (P.G k).x (wr.alloc (.cells #[.int .u8 (P.G k).t, .bool (P.G k).m, .int .u8 (P.G k).x.t, .int .u64 (P.G k).x.lo, .int .u64 (P.G k).x.hi] 149)) (keep0 (HKW.out.then0 hal) (HB.out.cell 1)) (by omega) hgl.ok.1 hgl.ok.2)
          have HK3 := Lib.hid (HKW.out.then0 hal)
          clear hgl hown hal hbx
          cases ht : ((P.G k).x.t == (P.G k).t) with
          | false =>
            have htt : ((P.G k).x.t != (P.G k).t) = true := by unfold bne; rw [ht]; rfl
            have HF := Lib.hid (typed_2 hlt (show globOk P.nf (P.G k) = false by unfold globOk; rw [ht]; rfl))
            clear ht
            go_wp2_with fail
            go_ret
            exact ⟨ret_bool (by rw [HF.out]), HK.out.then0 HK3.out⟩
          | true =>
            have htt : ((P.G k).x.t != (P.G k).t) = false := by unfold bne; rw [ht]; rfl
            have HT := Lib.hid ht
            clear ht
            go_wp2_with fail
            refine HC.out.mono ?_
            rintro e w4 ⟨rfl, hk4⟩
            have HK4 := Lib.hid (HK3.out.then0 hk4)
            clear hk4 y0 y2 y3 y4 x2 q0 q1 q2 q3 q4 htt
            cases hc : rightB P.nf (P.G k).x with
            | true =>
              have HCC := Lib.hid (show globOk P.nf (P.G k) = true by unfold globOk; rw [HT.out, hc]; rfl)
              clear hc
              go_wp2_with fail
              go_roundw
              case rel => exact ⟨k + 1, by omega, by go_num, fun j hj => by
                rcases Nat.lt_or_ge j k with h | h
                · exact HOK.out j h
                · obtain rfl : j = k := by omega
                  exact HCC.out, HK4.out⟩
              case measure => simp [intOf]; omega
            | false =>
              have HCC := Lib.hid (typed_2 hlt (show globOk P.nf (P.G k) = false by unfold globOk; rw [HT.out, hc]; rfl))
              clear hc
              go_wp2_with fail
              go_ret
              exact ⟨ret_bool (by rw [HCC.out]), HK.out.then0 HK4.out⟩
        · obtain rfl : k = P.ng := by omega
          have x1 := keep0 HKW.out (HX.out.cell 0)
          have k5 : wr.cell? ⟨sb, 5, none⟩ = some (.slice A4 P.ne c4) := keep0 HKW.out (HB.out.cell 5)
          obtain ⟨wy, hwy⟩ : ∃ wy, wy = wr := ⟨_, rfl⟩
          subst hwy
          have OK2 := HOK
          have HKY := HKW
          clear HOK HKW
          have i1 : ¬ ((P.ng : Int) < (P.ng : Int)) := by omega
          go_wp2_with fail
          clear i1
          go_loopw [65] (fun i wr => ∃ k : Nat, k ≤ P.ne ∧ i = .int .i64 (k : Int) ∧ (∀ j, j < k → allB P.nf (P.E j).f (P.E j).n = true) ∧ Kept S0 wa wr) (fun i _ => P.ne - (intOf i).toNat)
          case atStart => exact ⟨0, by omega, rfl, fun j hj => absurd hj (by omega), HKY.out⟩
          case round =>
            obtain ⟨k, hk, rfl, hok, hkw⟩ := hrel
            clear k5 x1
            have HOK := Lib.hid hok
            have HKW := Lib.hid hkw
            clear hok hkw hlt
            by_cases hlt : k < P.ne
            · have HS1 := Lib.hid (HS.out.kept0 HKW.out)
              obtain ⟨eA, ec, f0, f1, hl1⟩ := (HS1.out.st.el k hlt).ex
              have hown := HS1.out.ls.e
              rw [E4.out] at hown
              obtain ⟨g, cc, hsl, _, _⟩ := hown.is_some (by omega)
              cases hsl
              have q0 := (hown.rowcell (j := k * 2) (by omega)).trans (congrArg some f0)
              have q1 := (hown.rowcell (j := k * 2 + 1) (by omega)).trans (congrArg some f1)
              have i0 : (0 : Int) ≤ (k : Int) := by omega
              have i1 : (k : Int) < (P.ne : Int) := by omega
              have hal : Kept S0 wr (wr.alloc (.cells #[.int .u8 (P.E k).t, .slice eA (P.E k).n ec] 155)) := (Kept.refl S0 wr).alloc _
              have y1 := (Blk.new wr 155 #[.int .u8 (P.E k).t, .slice eA (P.E k).n ec]).cell 1
              have hls := hl1.lsl.kept hal
              have HC := Lib.hid (cl1_any sb xb A0 P.nf c0 eA (P.E k).n ec (P.E k).f (wr.alloc (.cells #[.int .u8 (P.E k).t, .slice eA (P.E k).n ec] 155)) (keep0 (HKW.out.then0 hal) (HX.out.cell 0)) (keep0 (HKW.out.then0 hal) (HB.out.cell 1)) (by omega) hls.sl (by have := hls.sm; omega) (HS1.out.st.el k hlt).ok)
              have HK3 := Lib.hid (HKW.out.then0 hal)
              clear hal hown f0 f1 hl1 hls
              go_wp2_with fail
              refine HC.out.mono ?_
              rintro e w4 ⟨rfl, hk4⟩
              have HK4 := Lib.hid (HK3.out.then0 hk4)
              clear hk4 q0 q1 y1
              cases hc : allB P.nf (P.E k).f (P.E k).n with
              | true =>
                have HCC := Lib.hid hc
                clear hc
                go_wp2_with fail
                go_roundw
                case rel => exact ⟨k + 1, by omega, by go_num, fun j hj => by
                  rcases Nat.lt_or_ge j k with h | h
                  · exact HOK.out j h
                  · obtain rfl : j = k := by omega
                    exact HCC.out, HK4.out⟩
                case measure => simp [intOf]; omega
              | false =>
                have HCC := Lib.hid hc
                clear hc
                go_wp2_with fail
                go_ret
                exact ⟨ret_bool (by rw [typed_3 hlt HCC.out]), HK.out.then0 HK4.out⟩
            · obtain rfl : k = P.ne := by omega
              have x1 := keep0 HKW.out (HX.out.cell 0)
              obtain ⟨wx, hwx⟩ : ∃ wx, wx = wr := ⟨_, rfl⟩
              subst hwx
              have OK3 := HOK
              have HKX := HKW
              clear HOK HKW
              have i1 : ¬ ((P.ne : Int) < (P.ne : Int)) := by omega
              go_wp2_with fail
              clear i1
              refine (sizes_any (HKX.out.blk HB.out (fun x => x))).mono ?_
              rintro e w3 ⟨rfl, hk3⟩
              have hal := hk3.alloc (.cells #[.int .i64 (P.nf : Int), .int .i64 (P.nt : Int), .int .i64 (P.nm : Int), .int .i64 (P.ng : Int), .int .i64 (P.ne : Int), .int .i64 (P.nd : Int), .int .i64 (P.ni : Int)] 43)
              have HKA := Lib.hid (HKX.out.then0 hal)
              have HAR := Lib.hid (Blk.new w3 43 #[.int .i64 (P.nf : Int), .int .i64 (P.nt : Int), .int .i64 (P.nm : Int), .int .i64 (P.ng : Int), .int .i64 (P.ne : Int), .int .i64 (P.nd : Int), .int .i64 (P.ni : Int)])
              have x2 : (w3.alloc (.cells #[.int .i64 (P.nf : Int), .int .i64 (P.nt : Int), .int .i64 (P.nm : Int), .int .i64 (P.ng : Int), .int .i64 (P.ne : Int), .int .i64 (P.nd : Int), .int .i64 (P.ni : Int)] 43)).cell? ⟨xb, 0, none⟩ = some (.pointer (some ⟨sb, 0, none⟩)) := keep0 HKA.out (HX.out.cell 0)
              have k7 : (w3.alloc (.cells #[.int .i64 (P.nf : Int), .int .i64 (P.nt : Int), .int .i64 (P.nm : Int), .int .i64 (P.ng : Int), .int .i64 (P.ne : Int), .int .i64 (P.nd : Int), .int .i64 (P.ni : Int)] 43)).cell? ⟨sb, 7, none⟩ = some (.slice A6 P.ni c6) := keep0 HKA.out (HB.out.cell 7)
              clear x1 hk3 hal
              go_wp2_with fail
              generalize hab : w3.heap.size = ab at *
              generalize w3.alloc (.cells #[.int .i64 (P.nf : Int), .int .i64 (P.nt : Int), .int .i64 (P.nm : Int), .int .i64 (P.ng : Int), .int .i64 (P.ne : Int), .int .i64 (P.nd : Int), .int .i64 (P.ni : Int)] 43) = wb at *
              clear hab
              go_loopw [83] (fun i wr => ∃ k : Nat, k ≤ P.ni ∧ i = .int .i64 (k : Int) ∧ (∀ j, j < k → instB P (P.I j) = true) ∧ Kept S0 wb wr) (fun i _ => P.ni - (intOf i).toNat)
              case atStart => exact ⟨0, by omega, rfl, fun j hj => absurd hj (by omega), Kept.refl S0 wb⟩
              case round =>
                obtain ⟨k, hk, rfl, hok, hkw⟩ := hrel
                clear x2 k7
                have HOK := Lib.hid hok
                have HKW := Lib.hid hkw
                clear hok hkw hlt
                by_cases hlt : k < P.ni
                · have HS2 := Lib.hid (HS.out.kept0 (HKA.out.then0 HKW.out))
                  obtain ⟨ib, f0, hin⟩ := (HS2.out.st.inn k hlt).ex
                  have hown := HS2.out.ls.i
                  rw [E6.out] at hown
                  obtain ⟨g, cc, hsl, _, _⟩ := hown.is_some (by omega)
                  cases hsl
                  have q0 := (hown.rowcell (j := k) (by omega)).trans (congrArg some f0)
                  have i0 : (0 : Int) ≤ (k : Int) := by omega
                  have i1 : (k : Int) < (P.ni : Int) := by omega
                  obtain ⟨B0, d0, hc0, hl0⟩ := hin.a 0 (by omega)
                  have HL0 := Lib.hid hl0.lsl
                  obtain ⟨B1, d1, hc1, hl1⟩ := hin.a 1 (by omega)
                  have HL1 := Lib.hid hl1.lsl
                  obtain ⟨B2, d2, hc2, hl2⟩ := hin.a 2 (by omega)
                  have HL2 := Lib.hid hl2.lsl
                  obtain ⟨B3, d3, hc3, hl3⟩ := hin.a 3 (by omega)
                  have HL3 := Lib.hid hl3.lsl
                  obtain ⟨B4, d4, hc4, hl4⟩ := hin.a 4 (by omega)
                  have HL4 := Lib.hid hl4.lsl
                  obtain ⟨B5, d5, hc5, hl5⟩ := hin.a 5 (by omega)
                  have HL5 := Lib.hid hl5.lsl
                  obtain ⟨XA, xc, XV, hx8, hxl8, hxf⟩ := hin.e
                  have HM8 := Lib.hid hx8
                  have HXL := Lib.hid hxl8.lsl
                  have HXF := Lib.hid hxf
                  have hT0w : wr.cell? ⟨ib, 1, none⟩ = some (.slice B0 ((P.I k).a 0).n d0) ∧ wr.cell? ⟨ib, 2, none⟩ = some (.slice B1 ((P.I k).a 1).n d1) ∧ wr.cell? ⟨ib, 3, none⟩ = some (.slice B2 ((P.I k).a 2).n d2) ∧ wr.cell? ⟨ib, 4, none⟩ = some (.slice B3 ((P.I k).a 3).n d3) ∧ wr.cell? ⟨ib, 5, none⟩ = some (.slice B4 ((P.I k).a 4).n d4) ∧ wr.cell? ⟨ib, 6, none⟩ = some (.slice B5 ((P.I k).a 5).n d5) ∧ wr.cell? ⟨ab, 0, none⟩ = some (.int .i64 (P.nf : Int)) ∧ wr.cell? ⟨ab, 1, none⟩ = some (.int .i64 (P.nt : Int)) ∧ wr.cell? ⟨ab, 2, none⟩ = some (.int .i64 (P.nm : Int)) ∧ wr.cell? ⟨ab, 3, none⟩ = some (.int .i64 (P.ng : Int)) ∧ wr.cell? ⟨ab, 4, none⟩ = some (.int .i64 (P.ne : Int)) ∧ wr.cell? ⟨ab, 5, none⟩ = some (.int .i64 (P.nd : Int)) := ⟨hc0, hc1, hc2, hc3, hc4, hc5, keep0 HKW.out (HAR.out.cell 0), keep0 HKW.out (HAR.out.cell 1), keep0 HKW.out (HAR.out.cell 2), keep0 HKW.out (HAR.out.cell 3), keep0 HKW.out (HAR.out.cell 4), keep0 HKW.out (HAR.out.cell 5)⟩
                  have HT0 := Lib.hid hT0w
                  clear hin hown f0 hx8 hxl8 hxf hT0w hc0 hl0 hc1 hl1 hc2 hl2 hc3 hl3 hc4 hl4 hc5 hl5
                  go_wp2_with fail
                  clear q0
                  have hT0 : wr.drew.cell? ⟨ib, 1, none⟩ = some (.slice B0 ((P.I k).a 0).n d0) ∧ wr.drew.cell? ⟨ib, 2, none⟩ = some (.slice B1 ((P.I k).a 1).n d1) ∧ wr.drew.cell? ⟨ib, 3, none⟩ = some (.slice B2 ((P.I k).a 2).n d2) ∧ wr.drew.cell? ⟨ib, 4, none⟩ = some (.slice B3 ((P.I k).a 3).n d3) ∧ wr.drew.cell? ⟨ib, 5, none⟩ = some (.slice B4 ((P.I k).a 4).n d4) ∧ wr.drew.cell? ⟨ib, 6, none⟩ = some (.slice B5 ((P.I k).a 5).n d5) ∧ wr.drew.cell? ⟨ab, 0, none⟩ = some (.int .i64 (P.nf : Int)) ∧ wr.drew.cell? ⟨ab, 1, none⟩ = some (.int .i64 (P.nt : Int)) ∧ wr.drew.cell? ⟨ab, 2, none⟩ = some (.int .i64 (P.nm : Int)) ∧ wr.drew.cell? ⟨ab, 3, none⟩ = some (.int .i64 (P.ng : Int)) ∧ wr.drew.cell? ⟨ab, 4, none⟩ = some (.int .i64 (P.ne : Int)) ∧ wr.drew.cell? ⟨ab, 5, none⟩ = some (.int .i64 (P.nd : Int)) := HT0.out
                  refine wp_region_R (fun w' => w'.cell? ⟨ib, 1, none⟩ = some (.slice B0 ((P.I k).a 0).n d0) ∧ w'.cell? ⟨ib, 2, none⟩ = some (.slice B1 ((P.I k).a 1).n d1) ∧ w'.cell? ⟨ib, 3, none⟩ = some (.slice B2 ((P.I k).a 2).n d2) ∧ w'.cell? ⟨ib, 4, none⟩ = some (.slice B3 ((P.I k).a 3).n d3) ∧ w'.cell? ⟨ib, 5, none⟩ = some (.slice B4 ((P.I k).a 4).n d4) ∧ w'.cell? ⟨ib, 6, none⟩ = some (.slice B5 ((P.I k).a 5).n d5) ∧ w'.cell? ⟨ab, 0, none⟩ = some (.int .i64 (P.nf : Int)) ∧ w'.cell? ⟨ab, 1, none⟩ = some (.int .i64 (P.nt : Int)) ∧ w'.cell? ⟨ab, 2, none⟩ = some (.int .i64 (P.nm : Int)) ∧ w'.cell? ⟨ab, 3, none⟩ = some (.int .i64 (P.ng : Int)) ∧ w'.cell? ⟨ab, 4, none⟩ = some (.int .i64 (P.ne : Int)) ∧ w'.cell? ⟨ab, 5, none⟩ = some (.int .i64 (P.nd : Int))) [] (by kernel_rfl) ?_
                  have HQ0 := Lib.hid (KS.mk (Kept.refl S0 wr).drew)
                  clear HT0
                  generalize wr.drew = v0 at *
                  (first | (refine tkR 0 (v := ?_) rfl hT0 ⟨by rfl, ?_⟩ ?_; rotate_left; intro w h; (try dsimp only at h); first | (go_simp; done) | (go_simp; with_reducible rfl)) | refine skR 0 rfl (fun _ => hT0) (by rfl) ?_); simp only [zq1, zq2, Act.put, zq4, zq5, zq6]
                  (first | (refine tkR 1 (v := ?_) rfl hT0 ⟨by rfl, ?_⟩ ?_; rotate_left; intro w h; (try dsimp only at h); first | (go_simp; done) | (go_simp; with_reducible rfl)) | refine skR 1 rfl (fun _ => hT0) (by rfl) ?_); simp only [zq1, zq2, zq3, Act.put, zq4, zq5, zq6]
                  (first | (refine tkR 2 (v := ?_) rfl hT0 ⟨by rfl, ?_⟩ ?_; rotate_left; intro w h; (try dsimp only at h); first | (go_simp; done) | (go_simp; with_reducible rfl)) | refine skR 2 rfl (fun _ => hT0) (by rfl) ?_); simp only [zq1, zq2, zq3, Act.put, zq4, zq5, zq6]
                  (first | (refine tkR 3 (v := ?_) rfl hT0 ⟨by rfl, ?_⟩ ?_; rotate_left; intro w h; (try dsimp only at h); first | (go_simp; done) | (go_simp; with_reducible rfl)) | refine skR 3 rfl (fun _ => hT0) (by rfl) ?_); simp only [zq1, zq2, zq3, Act.put, zq4, zq5, zq6]
                  (first | (refine tkR 4 (v := ?_) rfl hT0 ⟨by rfl, ?_⟩ ?_; rotate_left; intro w h; (try dsimp only at h); first | (go_simp; done) | (go_simp; with_reducible rfl)) | refine skR 4 rfl (fun _ => hT0) (by rfl) ?_); simp only [zq1, zq2, zq3, Act.put, zq4, zq5, zq6]
                  (first | (refine tkR 5 (v := ?_) rfl hT0 ⟨by rfl, ?_⟩ ?_; rotate_left; intro w h; (try dsimp only at h); first | (go_simp; done) | (go_simp; with_reducible rfl)) | refine skR 5 rfl (fun _ => hT0) (by rfl) ?_); simp only [zq1, zq2, zq3, Act.put, zq4, zq5, zq6]
                  refine wpAnyR_one 6 rfl (by kernel_rfl) (fun K hK => ?_)
                  go_simp
                  go_at_call 55
                  refine (sthere_any (P.nf : Int) B0 ((P.I k).a 0).n d0 ((P.I k).a 0).f v0 (HQ0.out.sl HL0.out) (by have := HL0.out.sm; omega)).mono ?_
                  rintro e v1 ⟨rfl, hq⟩
                  have HQ1 := Lib.hid (HQ0.out.then0 hq)
                  have hT1 : v1.cell? ⟨ib, 1, none⟩ = some (.slice B0 ((P.I k).a 0).n d0) ∧ v1.cell? ⟨ib, 2, none⟩ = some (.slice B1 ((P.I k).a 1).n d1) ∧ v1.cell? ⟨ib, 3, none⟩ = some (.slice B2 ((P.I k).a 2).n d2) ∧ v1.cell? ⟨ib, 4, none⟩ = some (.slice B3 ((P.I k).a 3).n d3) ∧ v1.cell? ⟨ib, 5, none⟩ = some (.slice B4 ((P.I k).a 4).n d4) ∧ v1.cell? ⟨ib, 6, none⟩ = some (.slice B5 ((P.I k).a 5).n d5) ∧ v1.cell? ⟨ab, 0, none⟩ = some (.int .i64 (P.nf : Int)) ∧ v1.cell? ⟨ab, 1, none⟩ = some (.int .i64 (P.nt : Int)) ∧ v1.cell? ⟨ab, 2, none⟩ = some (.int .i64 (P.nm : Int)) ∧ v1.cell? ⟨ab, 3, none⟩ = some (.int .i64 (P.ng : Int)) ∧ v1.cell? ⟨ab, 4, none⟩ = some (.int .i64 (P.ne : Int)) ∧ v1.cell? ⟨ab, 5, none⟩ = some (.int .i64 (P.nd : Int)) := ⟨keep0 hq hT0.1, keep0 hq hT0.2.1, keep0 hq hT0.2.2.1, keep0 hq hT0.2.2.2.1, keep0 hq hT0.2.2.2.2.1, keep0 hq hT0.2.2.2.2.2.1, keep0 hq hT0.2.2.2.2.2.2.1, keep0 hq hT0.2.2.2.2.2.2.2.1, keep0 hq hT0.2.2.2.2.2.2.2.2.1, keep0 hq hT0.2.2.2.2.2.2.2.2.2.1, keep0 hq hT0.2.2.2.2.2.2.2.2.2.2.1, keep0 hq hT0.2.2.2.2.2.2.2.2.2.2.2⟩
                  clear hq
                  cases hb0 : belowB ((P.I k).a 0).f ((P.I k).a 0).n (P.nf : Int) with
                  | false =>
                    have HBF := Lib.hid (typed_4 hlt (show instB P (P.I k) = false by unfold instB; rw [hb0]; simp))
                    clear hb0
                    refine hK.out _ _ (fun _ => hT1) ?_
                    clear hK K
                    (first | (refine tkR 7 (v := ?_) rfl hT1 ⟨by rfl, ?_⟩ ?_; rotate_left; intro w h; (try dsimp only at h); first | (go_simp; done) | (go_simp; with_reducible rfl)) | refine skR 7 rfl (fun _ => hT1) (by rfl) ?_); simp only [zq1, zq2, zq3, Act.put, zq4, zq5, zq6]
                    (first | (refine tkR 8 (v := ?_) rfl hT1 ⟨by rfl, ?_⟩ ?_; rotate_left; intro w h; (try dsimp only at h); first | (go_simp; done) | (go_simp; with_reducible rfl)) | refine skR 8 rfl (fun _ => hT1) (by rfl) ?_); simp only [zq1, zq2, zq3, Act.put, zq4, zq5, zq6]
                    (first | (refine tkR 9 (v := ?_) rfl hT1 ⟨by rfl, ?_⟩ ?_; rotate_left; intro w h; (try dsimp only at h); first | (go_simp; done) | (go_simp; with_reducible rfl)) | refine skR 9 rfl (fun _ => hT1) (by rfl) ?_); simp only [zq1, zq2, zq3, Act.put, zq4, zq5, zq6]
                    (first | (refine tkR 10 (v := ?_) rfl hT1 ⟨by rfl, ?_⟩ ?_; rotate_left; intro w h; (try dsimp only at h); first | (go_simp; done) | (go_simp; with_reducible rfl)) | refine skR 10 rfl (fun _ => hT1) (by rfl) ?_); simp only [zq1, zq2, zq3, Act.put, zq4, zq5, zq6]
                    (first | (refine tkR 11 (v := ?_) rfl hT1 ⟨by rfl, ?_⟩ ?_; rotate_left; intro w h; (try dsimp only at h); first | (go_simp; done) | (go_simp; with_reducible rfl)) | refine skR 11 rfl (fun _ => hT1) (by rfl) ?_); simp only [zq1, zq2, zq3, Act.put, zq4, zq5, zq6]
                    (first | (refine tkR 12 (v := ?_) rfl hT1 ⟨by rfl, ?_⟩ ?_; rotate_left; intro w h; (try dsimp only at h); first | (go_simp; done) | (go_simp; with_reducible rfl)) | refine skR 12 rfl (fun _ => hT1) (by rfl) ?_); simp only [zq1, zq2, zq3, Act.put, zq4, zq5, zq6]
                    (first | (refine tkR 13 (v := ?_) rfl hT1 ⟨by rfl, ?_⟩ ?_; rotate_left; intro w h; (try dsimp only at h); first | (go_simp; done) | (go_simp; with_reducible rfl)) | refine skR 13 rfl (fun _ => hT1) (by rfl) ?_); simp only [zq1, zq2, zq3, Act.put, zq4, zq5, zq6]
                    (first | (refine tkR 14 (v := ?_) rfl hT1 ⟨by rfl, ?_⟩ ?_; rotate_left; intro w h; (try dsimp only at h); first | (go_simp; done) | (go_simp; with_reducible rfl)) | refine skR 14 rfl (fun _ => hT1) (by rfl) ?_); simp only [zq1, zq2, zq3, Act.put, zq4, zq5, zq6]
                    (first | (refine tkR 15 (v := ?_) rfl hT1 ⟨by rfl, ?_⟩ ?_; rotate_left; intro w h; (try dsimp only at h); first | (go_simp; done) | (go_simp; with_reducible rfl)) | refine skR 15 rfl (fun _ => hT1) (by rfl) ?_); simp only [zq1, zq2, zq3, Act.put, zq4, zq5, zq6]
                    (first | (refine tkR 16 (v := ?_) rfl hT1 ⟨by rfl, ?_⟩ ?_; rotate_left; intro w h; (try dsimp only at h); first | (go_simp; done) | (go_simp; with_reducible rfl)) | refine skR 16 rfl (fun _ => hT1) (by rfl) ?_); simp only [zq1, zq2, zq3, Act.put, zq4, zq5, zq6]
                    (first | (refine tkR 17 (v := ?_) rfl hT1 ⟨by rfl, ?_⟩ ?_; rotate_left; intro w h; (try dsimp only at h); first | (go_simp; done) | (go_simp; with_reducible rfl)) | refine skR 17 rfl (fun _ => hT1) (by rfl) ?_); simp only [zq1, zq2, zq3, Act.put, zq4, zq5, zq6]
                    (first | (refine tkR 18 (v := ?_) rfl hT1 ⟨by rfl, ?_⟩ ?_; rotate_left; intro w h; (try dsimp only at h); first | (go_simp; done) | (go_simp; with_reducible rfl)) | refine skR 18 rfl (fun _ => hT1) (by rfl) ?_); simp only [zq1, zq2, zq3, Act.put, zq4, zq5, zq6]
                    (first | (refine tkR 19 (v := ?_) rfl hT1 ⟨by rfl, ?_⟩ ?_; rotate_left; intro w h; (try dsimp only at h); first | (go_simp; done) | (go_simp; with_reducible rfl)) | refine skR 19 rfl (fun _ => hT1) (by rfl) ?_); simp only [zq1, zq2, zq3, Act.put, zq4, zq5, zq6]
                    (first | (refine tkR 20 (v := ?_) rfl hT1 ⟨by rfl, ?_⟩ ?_; rotate_left; intro w h; (try dsimp only at h); first | (go_simp; done) | (go_simp; with_reducible rfl)) | refine skR 20 rfl (fun _ => hT1) (by rfl) ?_); simp only [zq1, zq2, zq3, Act.put, zq4, zq5, zq6]
                    (first | (refine tkR 21 (v := ?_) rfl hT1 ⟨by rfl, ?_⟩ ?_; rotate_left; intro w h; (try dsimp only at h); first | (go_simp; done) | (go_simp; with_reducible rfl)) | refine skR 21 rfl (fun _ => hT1) (by rfl) ?_); simp only [zq1, zq2, zq3, Act.put, zq4, zq5, zq6]
                    (first | (refine tkR 22 (v := ?_) rfl hT1 ⟨by rfl, ?_⟩ ?_; rotate_left; intro w h; (try dsimp only at h); first | (go_simp; done) | (go_simp; with_reducible rfl)) | refine skR 22 rfl (fun _ => hT1) (by rfl) ?_); simp only [zq1, zq2, zq3, Act.put, zq4, zq5, zq6]
                    (first | (refine tkR 23 (v := ?_) rfl hT1 ⟨by rfl, ?_⟩ ?_; rotate_left; intro w h; (try dsimp only at h); first | (go_simp; done) | (go_simp; with_reducible rfl)) | refine skR 23 rfl (fun _ => hT1) (by rfl) ?_); simp only [zq1, zq2, zq3, Act.put, zq4, zq5, zq6]
                    (first | (refine tkR 24 (v := ?_) rfl hT1 ⟨by rfl, ?_⟩ ?_; rotate_left; intro w h; (try dsimp only at h); first | (go_simp; done) | (go_simp; with_reducible rfl)) | refine skR 24 rfl (fun _ => hT1) (by rfl) ?_); simp only [zq1, zq2, zq3, Act.put, zq4, zq5, zq6]
                    (first | (refine tkR 25 (v := ?_) rfl hT1 ⟨by rfl, ?_⟩ ?_; rotate_left; intro w h; (try dsimp only at h); first | (go_simp; done) | (go_simp; with_reducible rfl)) | refine skR 25 rfl (fun _ => hT1) (by rfl) ?_); simp only [zq1, zq2, zq3, Act.put, zq4, zq5, zq6]
                    (first | (refine tkR 26 (v := ?_) rfl hT1 ⟨by rfl, ?_⟩ ?_; rotate_left; intro w h; (try dsimp only at h); first | (go_simp; done) | (go_simp; with_reducible rfl)) | refine skR 26 rfl (fun _ => hT1) (by rfl) ?_); simp only [zq1, zq2, zq3, Act.put, zq4, zq5, zq6]
                    (first | (refine tkR 27 (v := ?_) rfl hT1 ⟨by rfl, ?_⟩ ?_; rotate_left; intro w h; (try dsimp only at h); first | (go_simp; done) | (go_simp; with_reducible rfl)) | refine skR 27 rfl (fun _ => hT1) (by rfl) ?_); simp only [zq1, zq2, zq3, Act.put, zq4, zq5, zq6]
                    (first | (refine tkR 28 (v := ?_) rfl hT1 ⟨by rfl, ?_⟩ ?_; rotate_left; intro w h; (try dsimp only at h); first | (go_simp; done) | (go_simp; with_reducible rfl)) | refine skR 28 rfl (fun _ => hT1) (by rfl) ?_); simp only [zq1, zq2, zq3, Act.put, zq4, zq5, zq6]
                    (first | (refine tkR 29 (v := ?_) rfl hT1 ⟨by rfl, ?_⟩ ?_; rotate_left; intro w h; (try dsimp only at h); first | (go_simp; done) | (go_simp; with_reducible rfl)) | refine skR 29 rfl (fun _ => hT1) (by rfl) ?_); simp only [zq1, zq2, zq3, Act.put, zq4, zq5, zq6]
                    (first | (refine tkR 30 (v := ?_) rfl hT1 ⟨by rfl, ?_⟩ ?_; rotate_left; intro w h; (try dsimp only at h); first | (go_simp; done) | (go_simp; with_reducible rfl)) | refine skR 30 rfl (fun _ => hT1) (by rfl) ?_); simp only [zq1, zq2, zq3, Act.put, zq4, zq5, zq6]
                    (first | (refine tkR 31 (v := ?_) rfl hT1 ⟨by rfl, ?_⟩ ?_; rotate_left; intro w h; (try dsimp only at h); first | (go_simp; done) | (go_simp; with_reducible rfl)) | refine skR 31 rfl (fun _ => hT1) (by rfl) ?_); simp only [zq1, zq2, zq3, Act.put, zq4, zq5, zq6]
                    (first | (refine tkR 32 (v := ?_) rfl hT1 ⟨by rfl, ?_⟩ ?_; rotate_left; intro w h; (try dsimp only at h); first | (go_simp; done) | (go_simp; with_reducible rfl)) | refine skR 32 rfl (fun _ => hT1) (by rfl) ?_); simp only [zq1, zq2, zq3, Act.put, zq4, zq5, zq6]
                    (first | (refine tkR 33 (v := ?_) rfl hT1 ⟨by rfl, ?_⟩ ?_; rotate_left; intro w h; (try dsimp only at h); first | (go_simp; done) | (go_simp; with_reducible rfl)) | refine skR 33 rfl (fun _ => hT1) (by rfl) ?_); simp only [zq1, zq2, zq3, Act.put, zq4, zq5, zq6]
                    (first | (refine tkR 34 (v := ?_) rfl hT1 ⟨by rfl, ?_⟩ ?_; rotate_left; intro w h; (try dsimp only at h); first | (go_simp; done) | (go_simp; with_reducible rfl)) | refine skR 34 rfl (fun _ => hT1) (by rfl) ?_); simp only [zq1, zq2, zq3, Act.put, zq4, zq5, zq6]
                    (first | (refine tkR 35 (v := ?_) rfl hT1 ⟨by rfl, ?_⟩ ?_; rotate_left; intro w h; (try dsimp only at h); first | (go_simp; done) | (go_simp; with_reducible rfl)) | refine skR 35 rfl (fun _ => hT1) (by rfl) ?_); simp only [zq1, zq2, zq3, Act.put, zq4, zq5, zq6]
                    (first | (refine tkR 36 (v := ?_) rfl hT1 ⟨by rfl, ?_⟩ ?_; rotate_left; intro w h; (try dsimp only at h); first | (go_simp; done) | (go_simp; with_reducible rfl)) | refine skR 36 rfl (fun _ => hT1) (by rfl) ?_); simp only [zq1, zq2, zq3, Act.put, zq4, zq5, zq6]
                    (first | (refine tkR 37 (v := ?_) rfl hT1 ⟨by rfl, ?_⟩ ?_; rotate_left; intro w h; (try dsimp only at h); first | (go_simp; done) | (go_simp; with_reducible rfl)) | refine skR 37 rfl (fun _ => hT1) (by rfl) ?_); simp only [zq1, zq2, zq3, Act.put, zq4, zq5, zq6]
                    (first | (refine tkR 38 (v := ?_) rfl hT1 ⟨by rfl, ?_⟩ ?_; rotate_left; intro w h; (try dsimp only at h); first | (go_simp; done) | (go_simp; with_reducible rfl)) | refine skR 38 rfl (fun _ => hT1) (by rfl) ?_); simp only [zq1, zq2, zq3, Act.put, zq4, zq5, zq6]
                    (first | (refine tkR 39 (v := ?_) rfl hT1 ⟨by rfl, ?_⟩ ?_; rotate_left; intro w h; (try dsimp only at h); first | (go_simp; done) | (go_simp; with_reducible rfl)) | refine skR 39 rfl (fun _ => hT1) (by rfl) ?_); simp only [zq1, zq2, zq3, Act.put, zq4, zq5, zq6]
                    (first | (refine tkR 40 (v := ?_) rfl hT1 ⟨by rfl, ?_⟩ ?_; rotate_left; intro w h; (try dsimp only at h); first | (go_simp; done) | (go_simp; with_reducible rfl)) | refine skR 40 rfl (fun _ => hT1) (by rfl) ?_); simp only [zq1, zq2, zq3, Act.put, zq4, zq5, zq6]
                    (first | (refine tkR 41 (v := ?_) rfl hT1 ⟨by rfl, ?_⟩ ?_; rotate_left; intro w h; (try dsimp only at h); first | (go_simp; done) | (go_simp; with_reducible rfl)) | refine skR 41 rfl (fun _ => hT1) (by rfl) ?_); simp only [zq1, zq2, zq3, Act.put, zq4, zq5, zq6]
                    (first | (refine tkR 42 (v := ?_) rfl hT1 ⟨by rfl, ?_⟩ ?_; rotate_left; intro w h; (try dsimp only at h); first | (go_simp; done) | (go_simp; with_reducible rfl)) | refine skR 42 rfl (fun _ => hT1) (by rfl) ?_); simp only [zq1, zq2, zq3, Act.put, zq4, zq5, zq6]
                    (first | (refine tkR 43 (v := ?_) rfl hT1 ⟨by rfl, ?_⟩ ?_; rotate_left; intro w h; (try dsimp only at h); first | (go_simp; done) | (go_simp; with_reducible rfl)) | refine skR 43 rfl (fun _ => hT1) (by rfl) ?_); simp only [zq1, zq2, zq3, Act.put, zq4, zq5, zq6]
                    (first | (refine tkR 44 (v := ?_) rfl hT1 ⟨by rfl, ?_⟩ ?_; rotate_left; intro w h; (try dsimp only at h); first | (go_simp; done) | (go_simp; with_reducible rfl)) | refine skR 44 rfl (fun _ => hT1) (by rfl) ?_); simp only [zq1, zq2, zq3, Act.put, zq4, zq5, zq6]
                    (first | (refine tkR 45 (v := ?_) rfl hT1 ⟨by rfl, ?_⟩ ?_; rotate_left; intro w h; (try dsimp only at h); first | (go_simp; done) | (go_simp; with_reducible rfl)) | refine skR 45 rfl (fun _ => hT1) (by rfl) ?_); simp only [zq1, zq2, zq3, Act.put, zq4, zq5, zq6]
                    (first | (refine tkR 46 (v := ?_) rfl hT1 ⟨by rfl, ?_⟩ ?_; rotate_left; intro w h; (try dsimp only at h); first | (go_simp; done) | (go_simp; with_reducible rfl)) | refine skR 46 rfl (fun _ => hT1) (by rfl) ?_); simp only [zq1, zq2, zq3, Act.put, zq4, zq5, zq6]
                    (first | (refine tkR 47 (v := ?_) rfl hT1 ⟨by rfl, ?_⟩ ?_; rotate_left; intro w h; (try dsimp only at h); first | (go_simp; done) | (go_simp; with_reducible rfl)) | refine skR 47 rfl (fun _ => hT1) (by rfl) ?_); simp only [zq1, zq2, zq3, Act.put, zq4, zq5, zq6]
                    (first | (refine tkR 48 (v := ?_) rfl hT1 ⟨by rfl, ?_⟩ ?_; rotate_left; intro w h; (try dsimp only at h); first | (go_simp; done) | (go_simp; with_reducible rfl)) | refine skR 48 rfl (fun _ => hT1) (by rfl) ?_); simp only [zq1, zq2, zq3, Act.put, zq4, zq5, zq6]
                    (first | (refine tkR 49 (v := ?_) rfl hT1 ⟨by rfl, ?_⟩ ?_; rotate_left; intro w h; (try dsimp only at h); first | (go_simp; done) | (go_simp; with_reducible rfl)) | refine skR 49 rfl (fun _ => hT1) (by rfl) ?_); simp only [zq1, zq2, zq3, Act.put, zq4, zq5, zq6]
                    (first | (refine tkR 50 (v := ?_) rfl hT1 ⟨by rfl, ?_⟩ ?_; rotate_left; intro w h; (try dsimp only at h); first | (go_simp; done) | (go_simp; with_reducible rfl)) | refine skR 50 rfl (fun _ => hT1) (by rfl) ?_); simp only [zq1, zq2, zq3, Act.put, zq4, zq5, zq6]
                    (first | (refine tkR 51 (v := ?_) rfl hT1 ⟨by rfl, ?_⟩ ?_; rotate_left; intro w h; (try dsimp only at h); first | (go_simp; done) | (go_simp; with_reducible rfl)) | refine skR 51 rfl (fun _ => hT1) (by rfl) ?_); simp only [zq1, zq2, zq3, Act.put, zq4, zq5, zq6]
                    (first | (refine tkR 52 (v := ?_) rfl hT1 ⟨by rfl, ?_⟩ ?_; rotate_left; intro w h; (try dsimp only at h); first | (go_simp; done) | (go_simp; with_reducible rfl)) | refine skR 52 rfl (fun _ => hT1) (by rfl) ?_); simp only [zq1, zq2, zq3, Act.put, zq4, zq5, zq6]
                    (first | (refine tkR 53 (v := ?_) rfl hT1 ⟨by rfl, ?_⟩ ?_; rotate_left; intro w h; (try dsimp only at h); first | (go_simp; done) | (go_simp; with_reducible rfl)) | refine skR 53 rfl (fun _ => hT1) (by rfl) ?_); simp only [zq1, zq2, zq3, Act.put, zq4, zq5, zq6]
                    (first | (refine tkR 54 (v := ?_) rfl hT1 ⟨by rfl, ?_⟩ ?_; rotate_left; intro w h; (try dsimp only at h); first | (go_simp; done) | (go_simp; with_reducible rfl)) | refine skR 54 rfl (fun _ => hT1) (by rfl) ?_); simp only [zq1, zq2, zq3, Act.put, zq4, zq5, zq6]
                    (first | (refine tkR 55 (v := ?_) rfl hT1 ⟨by rfl, ?_⟩ ?_; rotate_left; intro w h; (try dsimp only at h); first | (go_simp; done) | (go_simp; with_reducible rfl)) | refine skR 55 rfl (fun _ => hT1) (by rfl) ?_); simp only [zq1, zq2, zq3, Act.put, zq4, zq5, zq6]
                    (first | (refine tkR 56 (v := ?_) rfl hT1 ⟨by rfl, ?_⟩ ?_; rotate_left; intro w h; (try dsimp only at h); first | (go_simp; done) | (go_simp; with_reducible rfl)) | refine skR 56 rfl (fun _ => hT1) (by rfl) ?_); simp only [zq1, zq2, zq3, Act.put, zq4, zq5, zq6]
                    (first | (refine tkR 57 (v := ?_) rfl hT1 ⟨by rfl, ?_⟩ ?_; rotate_left; intro w h; (try dsimp only at h); first | (go_simp; done) | (go_simp; with_reducible rfl)) | refine skR 57 rfl (fun _ => hT1) (by rfl) ?_); simp only [zq1, zq2, zq3, Act.put, zq4, zq5, zq6]
                    refine wpAnyR_done (by kernel_rfl) ?_ _
                    clear hT0 hT1
                    go_wp2_with fail
                    go_ret
                    exact ⟨ret_bool (by rw [HBF.out]), ((HK.out.then0 HKA.out).then0 HKW.out).then0 HQ1.out.k⟩
                  | true =>
                    have HB0 := Lib.hid hb0
                    clear hb0
                    refine hK.out _ _ (fun _ => hT1) ?_
                    clear hK K hT0
                    (first | (refine tkR 7 (v := ?_) rfl hT1 ⟨by rfl, ?_⟩ ?_; rotate_left; intro w h; (try dsimp only at h); first | (go_simp; done) | (go_simp; with_reducible rfl)) | refine skR 7 rfl (fun _ => hT1) (by rfl) ?_); simp only [zq1, zq2, zq3, Act.put, zq4, zq5, zq6]
                    (first | (refine tkR 8 (v := ?_) rfl hT1 ⟨by rfl, ?_⟩ ?_; rotate_left; intro w h; (try dsimp only at h); first | (go_simp; done) | (go_simp; with_reducible rfl)) | refine skR 8 rfl (fun _ => hT1) (by rfl) ?_); simp only [zq1, zq2, zq3, Act.put, zq4, zq5, zq6]
                    (first | (refine tkR 9 (v := ?_) rfl hT1 ⟨by rfl, ?_⟩ ?_; rotate_left; intro w h; (try dsimp only at h); first | (go_simp; done) | (go_simp; with_reducible rfl)) | refine skR 9 rfl (fun _ => hT1) (by rfl) ?_); simp only [zq1, zq2, zq3, Act.put, zq4, zq5, zq6]
                    (first | (refine tkR 10 (v := ?_) rfl hT1 ⟨by rfl, ?_⟩ ?_; rotate_left; intro w h; (try dsimp only at h); first | (go_simp; done) | (go_simp; with_reducible rfl)) | refine skR 10 rfl (fun _ => hT1) (by rfl) ?_); simp only [zq1, zq2, zq3, Act.put, zq4, zq5, zq6]
                    (first | (refine tkR 11 (v := ?_) rfl hT1 ⟨by rfl, ?_⟩ ?_; rotate_left; intro w h; (try dsimp only at h); first | (go_simp; done) | (go_simp; with_reducible rfl)) | refine skR 11 rfl (fun _ => hT1) (by rfl) ?_); simp only [zq1, zq2, zq3, Act.put, zq4, zq5, zq6]
                    (first | (refine tkR 12 (v := ?_) rfl hT1 ⟨by rfl, ?_⟩ ?_; rotate_left; intro w h; (try dsimp only at h); first | (go_simp; done) | (go_simp; with_reducible rfl)) | refine skR 12 rfl (fun _ => hT1) (by rfl) ?_); simp only [zq1, zq2, zq3, Act.put, zq4, zq5, zq6]
                    (first | (refine tkR 13 (v := ?_) rfl hT1 ⟨by rfl, ?_⟩ ?_; rotate_left; intro w h; (try dsimp only at h); first | (go_simp; done) | (go_simp; with_reducible rfl)) | refine skR 13 rfl (fun _ => hT1) (by rfl) ?_); simp only [zq1, zq2, zq3, Act.put, zq4, zq5, zq6]
                    (first | (refine tkR 14 (v := ?_) rfl hT1 ⟨by rfl, ?_⟩ ?_; rotate_left; intro w h; (try dsimp only at h); first | (go_simp; done) | (go_simp; with_reducible rfl)) | refine skR 14 rfl (fun _ => hT1) (by rfl) ?_); simp only [zq1, zq2, zq3, Act.put, zq4, zq5, zq6]
                    refine wpAnyR_one 15 rfl (by kernel_rfl) (fun K hK => ?_)
                    go_simp
                    go_at_call 55
                    refine (sthere_any (P.nt : Int) B1 ((P.I k).a 1).n d1 ((P.I k).a 1).f v1 (HQ1.out.sl HL1.out) (by have := HL1.out.sm; omega)).mono ?_
                    rintro e v2 ⟨rfl, hq⟩
                    have HQ2 := Lib.hid (HQ1.out.then0 hq)
                    have hT2 : v2.cell? ⟨ib, 1, none⟩ = some (.slice B0 ((P.I k).a 0).n d0) ∧ v2.cell? ⟨ib, 2, none⟩ = some (.slice B1 ((P.I k).a 1).n d1) ∧ v2.cell? ⟨ib, 3, none⟩ = some (.slice B2 ((P.I k).a 2).n d2) ∧ v2.cell? ⟨ib, 4, none⟩ = some (.slice B3 ((P.I k).a 3).n d3) ∧ v2.cell? ⟨ib, 5, none⟩ = some (.slice B4 ((P.I k).a 4).n d4) ∧ v2.cell? ⟨ib, 6, none⟩ = some (.slice B5 ((P.I k).a 5).n d5) ∧ v2.cell? ⟨ab, 0, none⟩ = some (.int .i64 (P.nf : Int)) ∧ v2.cell? ⟨ab, 1, none⟩ = some (.int .i64 (P.nt : Int)) ∧ v2.cell? ⟨ab, 2, none⟩ = some (.int .i64 (P.nm : Int)) ∧ v2.cell? ⟨ab, 3, none⟩ = some (.int .i64 (P.ng : Int)) ∧ v2.cell? ⟨ab, 4, none⟩ = some (.int .i64 (P.ne : Int)) ∧ v2.cell? ⟨ab, 5, none⟩ = some (.int .i64 (P.nd : Int)) := ⟨keep0 hq hT1.1, keep0 hq hT1.2.1, keep0 hq hT1.2.2.1, keep0 hq hT1.2.2.2.1, keep0 hq hT1.2.2.2.2.1, keep0 hq hT1.2.2.2.2.2.1, keep0 hq hT1.2.2.2.2.2.2.1, keep0 hq hT1.2.2.2.2.2.2.2.1, keep0 hq hT1.2.2.2.2.2.2.2.2.1, keep0 hq hT1.2.2.2.2.2.2.2.2.2.1, keep0 hq hT1.2.2.2.2.2.2.2.2.2.2.1, keep0 hq hT1.2.2.2.2.2.2.2.2.2.2.2⟩
                    clear hq
                    cases hb1 : belowB ((P.I k).a 1).f ((P.I k).a 1).n (P.nt : Int) with
                    | false =>
                      have HBF := Lib.hid (typed_4 hlt (show instB P (P.I k) = false by unfold instB; rw [hb1, HB0.out]; simp))
                      clear hb1
                      refine hK.out _ _ (fun _ => hT2) ?_
                      clear hK K
                      (first | (refine tkR 16 (v := ?_) rfl hT2 ⟨by rfl, ?_⟩ ?_; rotate_left; intro w h; (try dsimp only at h); first | (go_simp; done) | (go_simp; with_reducible rfl)) | refine skR 16 rfl (fun _ => hT2) (by rfl) ?_); simp only [zq1, zq2, zq3, Act.put, zq4, zq5, zq6]
                      (first | (refine tkR 17 (v := ?_) rfl hT2 ⟨by rfl, ?_⟩ ?_; rotate_left; intro w h; (try dsimp only at h); first | (go_simp; done) | (go_simp; with_reducible rfl)) | refine skR 17 rfl (fun _ => hT2) (by rfl) ?_); simp only [zq1, zq2, zq3, Act.put, zq4, zq5, zq6]
                      (first | (refine tkR 18 (v := ?_) rfl hT2 ⟨by rfl, ?_⟩ ?_; rotate_left; intro w h; (try dsimp only at h); first | (go_simp; done) | (go_simp; with_reducible rfl)) | refine skR 18 rfl (fun _ => hT2) (by rfl) ?_); simp only [zq1, zq2, zq3, Act.put, zq4, zq5, zq6]
                      (first | (refine tkR 19 (v := ?_) rfl hT2 ⟨by rfl, ?_⟩ ?_; rotate_left; intro w h; (try dsimp only at h); first | (go_simp; done) | (go_simp; with_reducible rfl)) | refine skR 19 rfl (fun _ => hT2) (by rfl) ?_); simp only [zq1, zq2, zq3, Act.put, zq4, zq5, zq6]
                      (first | (refine tkR 20 (v := ?_) rfl hT2 ⟨by rfl, ?_⟩ ?_; rotate_left; intro w h; (try dsimp only at h); first | (go_simp; done) | (go_simp; with_reducible rfl)) | refine skR 20 rfl (fun _ => hT2) (by rfl) ?_); simp only [zq1, zq2, zq3, Act.put, zq4, zq5, zq6]
                      (first | (refine tkR 21 (v := ?_) rfl hT2 ⟨by rfl, ?_⟩ ?_; rotate_left; intro w h; (try dsimp only at h); first | (go_simp; done) | (go_simp; with_reducible rfl)) | refine skR 21 rfl (fun _ => hT2) (by rfl) ?_); simp only [zq1, zq2, zq3, Act.put, zq4, zq5, zq6]
                      (first | (refine tkR 22 (v := ?_) rfl hT2 ⟨by rfl, ?_⟩ ?_; rotate_left; intro w h; (try dsimp only at h); first | (go_simp; done) | (go_simp; with_reducible rfl)) | refine skR 22 rfl (fun _ => hT2) (by rfl) ?_); simp only [zq1, zq2, zq3, Act.put, zq4, zq5, zq6]
                      (first | (refine tkR 23 (v := ?_) rfl hT2 ⟨by rfl, ?_⟩ ?_; rotate_left; intro w h; (try dsimp only at h); first | (go_simp; done) | (go_simp; with_reducible rfl)) | refine skR 23 rfl (fun _ => hT2) (by rfl) ?_); simp only [zq1, zq2, zq3, Act.put, zq4, zq5, zq6]
                      (first | (refine tkR 24 (v := ?_) rfl hT2 ⟨by rfl, ?_⟩ ?_; rotate_left; intro w h; (try dsimp only at h); first | (go_simp; done) | (go_simp; with_reducible rfl)) | refine skR 24 rfl (fun _ => hT2) (by rfl) ?_); simp only [zq1, zq2, zq3, Act.put, zq4, zq5, zq6]
                      (first | (refine tkR 25 (v := ?_) rfl hT2 ⟨by rfl, ?_⟩ ?_; rotate_left; intro w h; (try dsimp only at h); first | (go_simp; done) | (go_simp; with_reducible rfl)) | refine skR 25 rfl (fun _ => hT2) (by rfl) ?_); simp only [zq1, zq2, zq3, Act.put, zq4, zq5, zq6]
                      (first | (refine tkR 26 (v := ?_) rfl hT2 ⟨by rfl, ?_⟩ ?_; rotate_left; intro w h; (try dsimp only at h); first | (go_simp; done) | (go_simp; with_reducible rfl)) | refine skR 26 rfl (fun _ => hT2) (by rfl) ?_); simp only [zq1, zq2, zq3, Act.put, zq4, zq5, zq6]
                      (first | (refine tkR 27 (v := ?_) rfl hT2 ⟨by rfl, ?_⟩ ?_; rotate_left; intro w h; (try dsimp only at h); first | (go_simp; done) | (go_simp; with_reducible rfl)) | refine skR 27 rfl (fun _ => hT2) (by rfl) ?_); simp only [zq1, zq2, zq3, Act.put, zq4, zq5, zq6]
                      (first | (refine tkR 28 (v := ?_) rfl hT2 ⟨by rfl, ?_⟩ ?_; rotate_left; intro w h; (try dsimp only at h); first | (go_simp; done) | (go_simp; with_reducible rfl)) | refine skR 28 rfl (fun _ => hT2) (by rfl) ?_); simp only [zq1, zq2, zq3, Act.put, zq4, zq5, zq6]
                      (first | (refine tkR 29 (v := ?_) rfl hT2 ⟨by rfl, ?_⟩ ?_; rotate_left; intro w h; (try dsimp only at h); first | (go_simp; done) | (go_simp; with_reducible rfl)) | refine skR 29 rfl (fun _ => hT2) (by rfl) ?_); simp only [zq1, zq2, zq3, Act.put, zq4, zq5, zq6]
                      (first | (refine tkR 30 (v := ?_) rfl hT2 ⟨by rfl, ?_⟩ ?_; rotate_left; intro w h; (try dsimp only at h); first | (go_simp; done) | (go_simp; with_reducible rfl)) | refine skR 30 rfl (fun _ => hT2) (by rfl) ?_); simp only [zq1, zq2, zq3, Act.put, zq4, zq5, zq6]
                      (first | (refine tkR 31 (v := ?_) rfl hT2 ⟨by rfl, ?_⟩ ?_; rotate_left; intro w h; (try dsimp only at h); first | (go_simp; done) | (go_simp; with_reducible rfl)) | refine skR 31 rfl (fun _ => hT2) (by rfl) ?_); simp only [zq1, zq2, zq3, Act.put, zq4, zq5, zq6]
                      (first | (refine tkR 32 (v := ?_) rfl hT2 ⟨by rfl, ?_⟩ ?_; rotate_left; intro w h; (try dsimp only at h); first | (go_simp; done) | (go_simp; with_reducible rfl)) | refine skR 32 rfl (fun _ => hT2) (by rfl) ?_); simp only [zq1, zq2, zq3, Act.put, zq4, zq5, zq6]
                      (first | (refine tkR 33 (v := ?_) rfl hT2 ⟨by rfl, ?_⟩ ?_; rotate_left; intro w h; (try dsimp only at h); first | (go_simp; done) | (go_simp; with_reducible rfl)) | refine skR 33 rfl (fun _ => hT2) (by rfl) ?_); simp only [zq1, zq2, zq3, Act.put, zq4, zq5, zq6]
                      (first | (refine tkR 34 (v := ?_) rfl hT2 ⟨by rfl, ?_⟩ ?_; rotate_left; intro w h; (try dsimp only at h); first | (go_simp; done) | (go_simp; with_reducible rfl)) | refine skR 34 rfl (fun _ => hT2) (by rfl) ?_); simp only [zq1, zq2, zq3, Act.put, zq4, zq5, zq6]
                      (first | (refine tkR 35 (v := ?_) rfl hT2 ⟨by rfl, ?_⟩ ?_; rotate_left; intro w h; (try dsimp only at h); first | (go_simp; done) | (go_simp; with_reducible rfl)) | refine skR 35 rfl (fun _ => hT2) (by rfl) ?_); simp only [zq1, zq2, zq3, Act.put, zq4, zq5, zq6]
                      (first | (refine tkR 36 (v := ?_) rfl hT2 ⟨by rfl, ?_⟩ ?_; rotate_left; intro w h; (try dsimp only at h); first | (go_simp; done) | (go_simp; with_reducible rfl)) | refine skR 36 rfl (fun _ => hT2) (by rfl) ?_); simp only [zq1, zq2, zq3, Act.put, zq4, zq5, zq6]
                      (first | (refine tkR 37 (v := ?_) rfl hT2 ⟨by rfl, ?_⟩ ?_; rotate_left; intro w h; (try dsimp only at h); first | (go_simp; done) | (go_simp; with_reducible rfl)) | refine skR 37 rfl (fun _ => hT2) (by rfl) ?_); simp only [zq1, zq2, zq3, Act.put, zq4, zq5, zq6]
                      (first | (refine tkR 38 (v := ?_) rfl hT2 ⟨by rfl, ?_⟩ ?_; rotate_left; intro w h; (try dsimp only at h); first | (go_simp; done) | (go_simp; with_reducible rfl)) | refine skR 38 rfl (fun _ => hT2) (by rfl) ?_); simp only [zq1, zq2, zq3, Act.put, zq4, zq5, zq6]
                      (first | (refine tkR 39 (v := ?_) rfl hT2 ⟨by rfl, ?_⟩ ?_; rotate_left; intro w h; (try dsimp only at h); first | (go_simp; done) | (go_simp; with_reducible rfl)) | refine skR 39 rfl (fun _ => hT2) (by rfl) ?_); simp only [zq1, zq2, zq3, Act.put, zq4, zq5, zq6]
                      (first | (refine tkR 40 (v := ?_) rfl hT2 ⟨by rfl, ?_⟩ ?_; rotate_left; intro w h; (try dsimp only at h); first | (go_simp; done) | (go_simp; with_reducible rfl)) | refine skR 40 rfl (fun _ => hT2) (by rfl) ?_); simp only [zq1, zq2, zq3, Act.put, zq4, zq5, zq6]
                      (first | (refine tkR 41 (v := ?_) rfl hT2 ⟨by rfl, ?_⟩ ?_; rotate_left; intro w h; (try dsimp only at h); first | (go_simp; done) | (go_simp; with_reducible rfl)) | refine skR 41 rfl (fun _ => hT2) (by rfl) ?_); simp only [zq1, zq2, zq3, Act.put, zq4, zq5, zq6]
                      (first | (refine tkR 42 (v := ?_) rfl hT2 ⟨by rfl, ?_⟩ ?_; rotate_left; intro w h; (try dsimp only at h); first | (go_simp; done) | (go_simp; with_reducible rfl)) | refine skR 42 rfl (fun _ => hT2) (by rfl) ?_); simp only [zq1, zq2, zq3, Act.put, zq4, zq5, zq6]
                      (first | (refine tkR 43 (v := ?_) rfl hT2 ⟨by rfl, ?_⟩ ?_; rotate_left; intro w h; (try dsimp only at h); first | (go_simp; done) | (go_simp; with_reducible rfl)) | refine skR 43 rfl (fun _ => hT2) (by rfl) ?_); simp only [zq1, zq2, zq3, Act.put, zq4, zq5, zq6]
                      (first | (refine tkR 44 (v := ?_) rfl hT2 ⟨by rfl, ?_⟩ ?_; rotate_left; intro w h; (try dsimp only at h); first | (go_simp; done) | (go_simp; with_reducible rfl)) | refine skR 44 rfl (fun _ => hT2) (by rfl) ?_); simp only [zq1, zq2, zq3, Act.put, zq4, zq5, zq6]
                      (first | (refine tkR 45 (v := ?_) rfl hT2 ⟨by rfl, ?_⟩ ?_; rotate_left; intro w h; (try dsimp only at h); first | (go_simp; done) | (go_simp; with_reducible rfl)) | refine skR 45 rfl (fun _ => hT2) (by rfl) ?_); simp only [zq1, zq2, zq3, Act.put, zq4, zq5, zq6]
                      (first | (refine tkR 46 (v := ?_) rfl hT2 ⟨by rfl, ?_⟩ ?_; rotate_left; intro w h; (try dsimp only at h); first | (go_simp; done) | (go_simp; with_reducible rfl)) | refine skR 46 rfl (fun _ => hT2) (by rfl) ?_); simp only [zq1, zq2, zq3, Act.put, zq4, zq5, zq6]
                      (first | (refine tkR 47 (v := ?_) rfl hT2 ⟨by rfl, ?_⟩ ?_; rotate_left; intro w h; (try dsimp only at h); first | (go_simp; done) | (go_simp; with_reducible rfl)) | refine skR 47 rfl (fun _ => hT2) (by rfl) ?_); simp only [zq1, zq2, zq3, Act.put, zq4, zq5, zq6]
                      (first | (refine tkR 48 (v := ?_) rfl hT2 ⟨by rfl, ?_⟩ ?_; rotate_left; intro w h; (try dsimp only at h); first | (go_simp; done) | (go_simp; with_reducible rfl)) | refine skR 48 rfl (fun _ => hT2) (by rfl) ?_); simp only [zq1, zq2, zq3, Act.put, zq4, zq5, zq6]
                      (first | (refine tkR 49 (v := ?_) rfl hT2 ⟨by rfl, ?_⟩ ?_; rotate_left; intro w h; (try dsimp only at h); first | (go_simp; done) | (go_simp; with_reducible rfl)) | refine skR 49 rfl (fun _ => hT2) (by rfl) ?_); simp only [zq1, zq2, zq3, Act.put, zq4, zq5, zq6]
                      (first | (refine tkR 50 (v := ?_) rfl hT2 ⟨by rfl, ?_⟩ ?_; rotate_left; intro w h; (try dsimp only at h); first | (go_simp; done) | (go_simp; with_reducible rfl)) | refine skR 50 rfl (fun _ => hT2) (by rfl) ?_); simp only [zq1, zq2, zq3, Act.put, zq4, zq5, zq6]
                      (first | (refine tkR 51 (v := ?_) rfl hT2 ⟨by rfl, ?_⟩ ?_; rotate_left; intro w h; (try dsimp only at h); first | (go_simp; done) | (go_simp; with_reducible rfl)) | refine skR 51 rfl (fun _ => hT2) (by rfl) ?_); simp only [zq1, zq2, zq3, Act.put, zq4, zq5, zq6]
                      (first | (refine tkR 52 (v := ?_) rfl hT2 ⟨by rfl, ?_⟩ ?_; rotate_left; intro w h; (try dsimp only at h); first | (go_simp; done) | (go_simp; with_reducible rfl)) | refine skR 52 rfl (fun _ => hT2) (by rfl) ?_); simp only [zq1, zq2, zq3, Act.put, zq4, zq5, zq6]
                      (first | (refine tkR 53 (v := ?_) rfl hT2 ⟨by rfl, ?_⟩ ?_; rotate_left; intro w h; (try dsimp only at h); first | (go_simp; done) | (go_simp; with_reducible rfl)) | refine skR 53 rfl (fun _ => hT2) (by rfl) ?_); simp only [zq1, zq2, zq3, Act.put, zq4, zq5, zq6]
                      (first | (refine tkR 54 (v := ?_) rfl hT2 ⟨by rfl, ?_⟩ ?_; rotate_left; intro w h; (try dsimp only at h); first | (go_simp; done) | (go_simp; with_reducible rfl)) | refine skR 54 rfl (fun _ => hT2) (by rfl) ?_); simp only [zq1, zq2, zq3, Act.put, zq4, zq5, zq6]
                      (first | (refine tkR 55 (v := ?_) rfl hT2 ⟨by rfl, ?_⟩ ?_; rotate_left; intro w h; (try dsimp only at h); first | (go_simp; done) | (go_simp; with_reducible rfl)) | refine skR 55 rfl (fun _ => hT2) (by rfl) ?_); simp only [zq1, zq2, zq3, Act.put, zq4, zq5, zq6]
                      (first | (refine tkR 56 (v := ?_) rfl hT2 ⟨by rfl, ?_⟩ ?_; rotate_left; intro w h; (try dsimp only at h); first | (go_simp; done) | (go_simp; with_reducible rfl)) | refine skR 56 rfl (fun _ => hT2) (by rfl) ?_); simp only [zq1, zq2, zq3, Act.put, zq4, zq5, zq6]
                      (first | (refine tkR 57 (v := ?_) rfl hT2 ⟨by rfl, ?_⟩ ?_; rotate_left; intro w h; (try dsimp only at h); first | (go_simp; done) | (go_simp; with_reducible rfl)) | refine skR 57 rfl (fun _ => hT2) (by rfl) ?_); simp only [zq1, zq2, zq3, Act.put, zq4, zq5, zq6]
                      refine wpAnyR_done (by kernel_rfl) ?_ _
                      clear hT1 hT2
                      go_wp2_with fail
                      go_ret
                      exact ⟨ret_bool (by rw [HBF.out]), ((HK.out.then0 HKA.out).then0 HKW.out).then0 HQ2.out.k⟩
                    | true =>
                      have HB1 := Lib.hid hb1
                      clear hb1
                      refine hK.out _ _ (fun _ => hT2) ?_
                      clear hK K hT1
                      (first | (refine tkR 16 (v := ?_) rfl hT2 ⟨by rfl, ?_⟩ ?_; rotate_left; intro w h; (try dsimp only at h); first | (go_simp; done) | (go_simp; with_reducible rfl)) | refine skR 16 rfl (fun _ => hT2) (by rfl) ?_); simp only [zq1, zq2, zq3, Act.put, zq4, zq5, zq6]
                      (first | (refine tkR 17 (v := ?_) rfl hT2 ⟨by rfl, ?_⟩ ?_; rotate_left; intro w h; (try dsimp only at h); first | (go_simp; done) | (go_simp; with_reducible rfl)) | refine skR 17 rfl (fun _ => hT2) (by rfl) ?_); simp only [zq1, zq2, zq3, Act.put, zq4, zq5, zq6]
                      (first | (refine tkR 18 (v := ?_) rfl hT2 ⟨by rfl, ?_⟩ ?_; rotate_left; intro w h; (try dsimp only at h); first | (go_simp; done) | (go_simp; with_reducible rfl)) | refine skR 18 rfl (fun _ => hT2) (by rfl) ?_); simp only [zq1, zq2, zq3, Act.put, zq4, zq5, zq6]
                      (first | (refine tkR 19 (v := ?_) rfl hT2 ⟨by rfl, ?_⟩ ?_; rotate_left; intro w h; (try dsimp only at h); first | (go_simp; done) | (go_simp; with_reducible rfl)) | refine skR 19 rfl (fun _ => hT2) (by rfl) ?_); simp only [zq1, zq2, zq3, Act.put, zq4, zq5, zq6]
                      (first | (refine tkR 20 (v := ?_) rfl hT2 ⟨by rfl, ?_⟩ ?_; rotate_left; intro w h; (try dsimp only at h); first | (go_simp; done) | (go_simp; with_reducible rfl)) | refine skR 20 rfl (fun _ => hT2) (by rfl) ?_); simp only [zq1, zq2, zq3, Act.put, zq4, zq5, zq6]
                      (first | (refine tkR 21 (v := ?_) rfl hT2 ⟨by rfl, ?_⟩ ?_; rotate_left; intro w h; (try dsimp only at h); first | (go_simp; done) | (go_simp; with_reducible rfl)) | refine skR 21 rfl (fun _ => hT2) (by rfl) ?_); simp only [zq1, zq2, zq3, Act.put, zq4, zq5, zq6]
                      (first | (refine tkR 22 (v := ?_) rfl hT2 ⟨by rfl, ?_⟩ ?_; rotate_left; intro w h; (try dsimp only at h); first | (go_simp; done) | (go_simp; with_reducible rfl)) | refine skR 22 rfl (fun _ => hT2) (by rfl) ?_); simp only [zq1, zq2, zq3, Act.put, zq4, zq5, zq6]
                      (first | (refine tkR 23 (v := ?_) rfl hT2 ⟨by rfl, ?_⟩ ?_; rotate_left; intro w h; (try dsimp only at h); first | (go_simp; done) | (go_simp; with_reducible rfl)) | refine skR 23 rfl (fun _ => hT2) (by rfl) ?_); simp only [zq1, zq2, zq3, Act.put, zq4, zq5, zq6]
                      (first | (refine tkR 24 (v := ?_) rfl hT2 ⟨by rfl, ?_⟩ ?_; rotate_left; intro w h; (try dsimp only at h); first | (go_simp; done) | (go_simp; with_reducible rfl)) | refine skR 24 rfl (fun _ => hT2) (by rfl) ?_); simp only [zq1, zq2, zq3, Act.put, zq4, zq5, zq6]
                      refine wpAnyR_one 25 rfl (by kernel_rfl) (fun K hK => ?_)
                      go_simp
                      go_at_call 55
                      refine (sthere_any (P.nm : Int) B2 ((P.I k).a 2).n d2 ((P.I k).a 2).f v2 (HQ2.out.sl HL2.out) (by have := HL2.out.sm; omega)).mono ?_
                      rintro e v3 ⟨rfl, hq⟩
                      have HQ3 := Lib.hid (HQ2.out.then0 hq)
                      have hT3 : v3.cell? ⟨ib, 1, none⟩ = some (.slice B0 ((P.I k).a 0).n d0) ∧ v3.cell? ⟨ib, 2, none⟩ = some (.slice B1 ((P.I k).a 1).n d1) ∧ v3.cell? ⟨ib, 3, none⟩ = some (.slice B2 ((P.I k).a 2).n d2) ∧ v3.cell? ⟨ib, 4, none⟩ = some (.slice B3 ((P.I k).a 3).n d3) ∧ v3.cell? ⟨ib, 5, none⟩ = some (.slice B4 ((P.I k).a 4).n d4) ∧ v3.cell? ⟨ib, 6, none⟩ = some (.slice B5 ((P.I k).a 5).n d5) ∧ v3.cell? ⟨ab, 0, none⟩ = some (.int .i64 (P.nf : Int)) ∧ v3.cell? ⟨ab, 1, none⟩ = some (.int .i64 (P.nt : Int)) ∧ v3.cell? ⟨ab, 2, none⟩ = some (.int .i64 (P.nm : Int)) ∧ v3.cell? ⟨ab, 3, none⟩ = some (.int .i64 (P.ng : Int)) ∧ v3.cell? ⟨ab, 4, none⟩ = some (.int .i64 (P.ne : Int)) ∧ v3.cell? ⟨ab, 5, none⟩ = some (.int .i64 (P.nd : Int)) := ⟨keep0 hq hT2.1, keep0 hq hT2.2.1, keep0 hq hT2.2.2.1, keep0 hq hT2.2.2.2.1, keep0 hq hT2.2.2.2.2.1, keep0 hq hT2.2.2.2.2.2.1, keep0 hq hT2.2.2.2.2.2.2.1, keep0 hq hT2.2.2.2.2.2.2.2.1, keep0 hq hT2.2.2.2.2.2.2.2.2.1, keep0 hq hT2.2.2.2.2.2.2.2.2.2.1, keep0 hq hT2.2.2.2.2.2.2.2.2.2.2.1, keep0 hq hT2.2.2.2.2.2.2.2.2.2.2.2⟩
                      clear hq
                      cases hb2 : belowB ((P.I k).a 2).f ((P.I k).a 2).n (P.nm : Int) with
                      | false =>
                        have HBF := Lib.hid (typed_4 hlt (show instB P (P.I k) = false by unfold instB; rw [hb2, HB0.out, HB1.out]; simp))
                        clear hb2
                        refine hK.out _ _ (fun _ => hT3) ?_
                        clear hK K
                        (first | (refine tkR 26 (v := ?_) rfl hT3 ⟨by rfl, ?_⟩ ?_; rotate_left; intro w h; (try dsimp only at h); first | (go_simp; done) | (go_simp; with_reducible rfl)) | refine skR 26 rfl (fun _ => hT3) (by rfl) ?_); simp only [zq1, zq2, zq3, Act.put, zq4, zq5, zq6]
                        (first | (refine tkR 27 (v := ?_) rfl hT3 ⟨by rfl, ?_⟩ ?_; rotate_left; intro w h; (try dsimp only at h); first | (go_simp; done) | (go_simp; with_reducible rfl)) | refine skR 27 rfl (fun _ => hT3) (by rfl) ?_); simp only [zq1, zq2, zq3, Act.put, zq4, zq5, zq6]
                        (first | (refine tkR 28 (v := ?_) rfl hT3 ⟨by rfl, ?_⟩ ?_; rotate_left; intro w h; (try dsimp only at h); first | (go_simp; done) | (go_simp; with_reducible rfl)) | refine skR 28 rfl (fun _ => hT3) (by rfl) ?_); simp only [zq1, zq2, zq3, Act.put, zq4, zq5, zq6]
                        (first | (refine tkR 29 (v := ?_) rfl hT3 ⟨by rfl, ?_⟩ ?_; rotate_left; intro w h; (try dsimp only at h); first | (go_simp; done) | (go_simp; with_reducible rfl)) | refine skR 29 rfl (fun _ => hT3) (by rfl) ?_); simp only [zq1, zq2, zq3, Act.put, zq4, zq5, zq6]
                        (first | (refine tkR 30 (v := ?_) rfl hT3 ⟨by rfl, ?_⟩ ?_; rotate_left; intro w h; (try dsimp only at h); first | (go_simp; done) | (go_simp; with_reducible rfl)) | refine skR 30 rfl (fun _ => hT3) (by rfl) ?_); simp only [zq1, zq2, zq3, Act.put, zq4, zq5, zq6]
                        (first | (refine tkR 31 (v := ?_) rfl hT3 ⟨by rfl, ?_⟩ ?_; rotate_left; intro w h; (try dsimp only at h); first | (go_simp; done) | (go_simp; with_reducible rfl)) | refine skR 31 rfl (fun _ => hT3) (by rfl) ?_); simp only [zq1, zq2, zq3, Act.put, zq4, zq5, zq6]
                        (first | (refine tkR 32 (v := ?_) rfl hT3 ⟨by rfl, ?_⟩ ?_; rotate_left; intro w h; (try dsimp only at h); first | (go_simp; done) | (go_simp; with_reducible rfl)) | refine skR 32 rfl (fun _ => hT3) (by rfl) ?_); simp only [zq1, zq2, zq3, Act.put, zq4, zq5, zq6]
                        (first | (refine tkR 33 (v := ?_) rfl hT3 ⟨by rfl, ?_⟩ ?_; rotate_left; intro w h; (try dsimp only at h); first | (go_simp; done) | (go_simp; with_reducible rfl)) | refine skR 33 rfl (fun _ => hT3) (by rfl) ?_); simp only [zq1, zq2, zq3, Act.put, zq4, zq5, zq6]
                        (first | (refine tkR 34 (v := ?_) rfl hT3 ⟨by rfl, ?_⟩ ?_; rotate_left; intro w h; (try dsimp only at h); first | (go_simp; done) | (go_simp; with_reducible rfl)) | refine skR 34 rfl (fun _ => hT3) (by rfl) ?_); simp only [zq1, zq2, zq3, Act.put, zq4, zq5, zq6]
                        (first | (refine tkR 35 (v := ?_) rfl hT3 ⟨by rfl, ?_⟩ ?_; rotate_left; intro w h; (try dsimp only at h); first | (go_simp; done) | (go_simp; with_reducible rfl)) | refine skR 35 rfl (fun _ => hT3) (by rfl) ?_); simp only [zq1, zq2, zq3, Act.put, zq4, zq5, zq6]
                        (first | (refine tkR 36 (v := ?_) rfl hT3 ⟨by rfl, ?_⟩ ?_; rotate_left; intro w h; (try dsimp only at h); first | (go_simp; done) | (go_simp; with_reducible rfl)) | refine skR 36 rfl (fun _ => hT3) (by rfl) ?_); simp only [zq1, zq2, zq3, Act.put, zq4, zq5, zq6]
                        (first | (refine tkR 37 (v := ?_) rfl hT3 ⟨by rfl, ?_⟩ ?_; rotate_left; intro w h; (try dsimp only at h); first | (go_simp; done) | (go_simp; with_reducible rfl)) | refine skR 37 rfl (fun _ => hT3) (by rfl) ?_); simp only [zq1, zq2, zq3, Act.put, zq4, zq5, zq6]
                        (first | (refine tkR 38 (v := ?_) rfl hT3 ⟨by rfl, ?_⟩ ?_; rotate_left; intro w h; (try dsimp only at h); first | (go_simp; done) | (go_simp; with_reducible rfl)) | refine skR 38 rfl (fun _ => hT3) (by rfl) ?_); simp only [zq1, zq2, zq3, Act.put, zq4, zq5, zq6]
                        (first | (refine tkR 39 (v := ?_) rfl hT3 ⟨by rfl, ?_⟩ ?_; rotate_left; intro w h; (try dsimp only at h); first | (go_simp; done) | (go_simp; with_reducible rfl)) | refine skR 39 rfl (fun _ => hT3) (by rfl) ?_); simp only [zq1, zq2, zq3, Act.put, zq4, zq5, zq6]
                        (first | (refine tkR 40 (v := ?_) rfl hT3 ⟨by rfl, ?_⟩ ?_; rotate_left; intro w h; (try dsimp only at h); first | (go_simp; done) | (go_simp; with_reducible rfl)) | refine skR 40 rfl (fun _ => hT3) (by rfl) ?_); simp only [zq1, zq2, zq3, Act.put, zq4, zq5, zq6]
                        (first | (refine tkR 41 (v := ?_) rfl hT3 ⟨by rfl, ?_⟩ ?_; rotate_left; intro w h; (try dsimp only at h); first | (go_simp; done) | (go_simp; with_reducible rfl)) | refine skR 41 rfl (fun _ => hT3) (by rfl) ?_); simp only [zq1, zq2, zq3, Act.put, zq4, zq5, zq6]
                        (first | (refine tkR 42 (v := ?_) rfl hT3 ⟨by rfl, ?_⟩ ?_; rotate_left; intro w h; (try dsimp only at h); first | (go_simp; done) | (go_simp; with_reducible rfl)) | refine skR 42 rfl (fun _ => hT3) (by rfl) ?_); simp only [zq1, zq2, zq3, Act.put, zq4, zq5, zq6]
                        (first | (refine tkR 43 (v := ?_) rfl hT3 ⟨by rfl, ?_⟩ ?_; rotate_left; intro w h; (try dsimp only at h); first | (go_simp; done) | (go_simp; with_reducible rfl)) | refine skR 43 rfl (fun _ => hT3) (by rfl) ?_); simp only [zq1, zq2, zq3, Act.put, zq4, zq5, zq6]
                        (first | (refine tkR 44 (v := ?_) rfl hT3 ⟨by rfl, ?_⟩ ?_; rotate_left; intro w h; (try dsimp only at h); first | (go_simp; done) | (go_simp; with_reducible rfl)) | refine skR 44 rfl (fun _ => hT3) (by rfl) ?_); simp only [zq1, zq2, zq3, Act.put, zq4, zq5, zq6]
                        (first | (refine tkR 45 (v := ?_) rfl hT3 ⟨by rfl, ?_⟩ ?_; rotate_left; intro w h; (try dsimp only at h); first | (go_simp; done) | (go_simp; with_reducible rfl)) | refine skR 45 rfl (fun _ => hT3) (by rfl) ?_); simp only [zq1, zq2, zq3, Act.put, zq4, zq5, zq6]
                        (first | (refine tkR 46 (v := ?_) rfl hT3 ⟨by rfl, ?_⟩ ?_; rotate_left; intro w h; (try dsimp only at h); first | (go_simp; done) | (go_simp; with_reducible rfl)) | refine skR 46 rfl (fun _ => hT3) (by rfl) ?_); simp only [zq1, zq2, zq3, Act.put, zq4, zq5, zq6]
                        (first | (refine tkR 47 (v := ?_) rfl hT3 ⟨by rfl, ?_⟩ ?_; rotate_left; intro w h; (try dsimp only at h); first | (go_simp; done) | (go_simp; with_reducible rfl)) | refine skR 47 rfl (fun _ => hT3) (by rfl) ?_); simp only [zq1, zq2, zq3, Act.put, zq4, zq5, zq6]
                        (first | (refine tkR 48 (v := ?_) rfl hT3 ⟨by rfl, ?_⟩ ?_; rotate_left; intro w h; (try dsimp only at h); first | (go_simp; done) | (go_simp; with_reducible rfl)) | refine skR 48 rfl (fun _ => hT3) (by rfl) ?_); simp only [zq1, zq2, zq3, Act.put, zq4, zq5, zq6]
                        (first | (refine tkR 49 (v := ?_) rfl hT3 ⟨by rfl, ?_⟩ ?_; rotate_left; intro w h; (try dsimp only at h); first | (go_simp; done) | (go_simp; with_reducible rfl)) | refine skR 49 rfl (fun _ => hT3) (by rfl) ?_); simp only [zq1, zq2, zq3, Act.put, zq4, zq5, zq6]
                        (first | (refine tkR 50 (v := ?_) rfl hT3 ⟨by rfl, ?_⟩ ?_; rotate_left; intro w h; (try dsimp only at h); first | (go_simp; done) | (go_simp; with_reducible rfl)) | refine skR 50 rfl (fun _ => hT3) (by rfl) ?_); simp only [zq1, zq2, zq3, Act.put, zq4, zq5, zq6]
                        (first | (refine tkR 51 (v := ?_) rfl hT3 ⟨by rfl, ?_⟩ ?_; rotate_left; intro w h; (try dsimp only at h); first | (go_simp; done) | (go_simp; with_reducible rfl)) | refine skR 51 rfl (fun _ => hT3) (by rfl) ?_); simp only [zq1, zq2, zq3, Act.put, zq4, zq5, zq6]
                        (first | (refine tkR 52 (v := ?_) rfl hT3 ⟨by rfl, ?_⟩ ?_; rotate_left; intro w h; (try dsimp only at h); first | (go_simp; done) | (go_simp; with_reducible rfl)) | refine skR 52 rfl (fun _ => hT3) (by rfl) ?_); simp only [zq1, zq2, zq3, Act.put, zq4, zq5, zq6]
                        (first | (refine tkR 53 (v := ?_) rfl hT3 ⟨by rfl, ?_⟩ ?_; rotate_left; intro w h; (try dsimp only at h); first | (go_simp; done) | (go_simp; with_reducible rfl)) | refine skR 53 rfl (fun _ => hT3) (by rfl) ?_); simp only [zq1, zq2, zq3, Act.put, zq4, zq5, zq6]
                        (first | (refine tkR 54 (v := ?_) rfl hT3 ⟨by rfl, ?_⟩ ?_; rotate_left; intro w h; (try dsimp only at h); first | (go_simp; done) | (go_simp; with_reducible rfl)) | refine skR 54 rfl (fun _ => hT3) (by rfl) ?_); simp only [zq1, zq2, zq3, Act.put, zq4, zq5, zq6]
                        (first | (refine tkR 55 (v := ?_) rfl hT3 ⟨by rfl, ?_⟩ ?_; rotate_left; intro w h; (try dsimp only at h); first | (go_simp; done) | (go_simp; with_reducible rfl)) | refine skR 55 rfl (fun _ => hT3) (by rfl) ?_); simp only [zq1, zq2, zq3, Act.put, zq4, zq5, zq6]
                        (first | (refine tkR 56 (v := ?_) rfl hT3 ⟨by rfl, ?_⟩ ?_; rotate_left; intro w h; (try dsimp only at h); first | (go_simp; done) | (go_simp; with_reducible rfl)) | refine skR 56 rfl (fun _ => hT3) (by rfl) ?_); simp only [zq1, zq2, zq3, Act.put, zq4, zq5, zq6]
                        (first | (refine tkR 57 (v := ?_) rfl hT3 ⟨by rfl, ?_⟩ ?_; rotate_left; intro w h; (try dsimp only at h); first | (go_simp; done) | (go_simp; with_reducible rfl)) | refine skR 57 rfl (fun _ => hT3) (by rfl) ?_); simp only [zq1, zq2, zq3, Act.put, zq4, zq5, zq6]
                        refine wpAnyR_done (by kernel_rfl) ?_ _
                        clear hT2 hT3
                        go_wp2_with fail
                        go_ret
                        exact ⟨ret_bool (by rw [HBF.out]), ((HK.out.then0 HKA.out).then0 HKW.out).then0 HQ3.out.k⟩
                      | true =>
                        have HB2 := Lib.hid hb2
                        clear hb2
                        refine hK.out _ _ (fun _ => hT3) ?_
                        clear hK K hT2
                        (first | (refine tkR 26 (v := ?_) rfl hT3 ⟨by rfl, ?_⟩ ?_; rotate_left; intro w h; (try dsimp only at h); first | (go_simp; done) | (go_simp; with_reducible rfl)) | refine skR 26 rfl (fun _ => hT3) (by rfl) ?_); simp only [zq1, zq2, zq3, Act.put, zq4, zq5, zq6]
                        (first | (refine tkR 27 (v := ?_) rfl hT3 ⟨by rfl, ?_⟩ ?_; rotate_left; intro w h; (try dsimp only at h); first | (go_simp; done) | (go_simp; with_reducible rfl)) | refine skR 27 rfl (fun _ => hT3) (by rfl) ?_); simp only [zq1, zq2, zq3, Act.put, zq4, zq5, zq6]
                        (first | (refine tkR 28 (v := ?_) rfl hT3 ⟨by rfl, ?_⟩ ?_; rotate_left; intro w h; (try dsimp only at h); first | (go_simp; done) | (go_simp; with_reducible rfl)) | refine skR 28 rfl (fun _ => hT3) (by rfl) ?_); simp only [zq1, zq2, zq3, Act.put, zq4, zq5, zq6]
                        (first | (refine tkR 29 (v := ?_) rfl hT3 ⟨by rfl, ?_⟩ ?_; rotate_left; intro w h; (try dsimp only at h); first | (go_simp; done) | (go_simp; with_reducible rfl)) | refine skR 29 rfl (fun _ => hT3) (by rfl) ?_); simp only [zq1, zq2, zq3, Act.put, zq4, zq5, zq6]
                        (first | (refine tkR 30 (v := ?_) rfl hT3 ⟨by rfl, ?_⟩ ?_; rotate_left; intro w h; (try dsimp only at h); first | (go_simp; done) | (go_simp; with_reducible rfl)) | refine skR 30 rfl (fun _ => hT3) (by rfl) ?_); simp only [zq1, zq2, zq3, Act.put, zq4, zq5, zq6]
                        (first | (refine tkR 31 (v := ?_) rfl hT3 ⟨by rfl, ?_⟩ ?_; rotate_left; intro w h; (try dsimp only at h); first | (go_simp; done) | (go_simp; with_reducible rfl)) | refine skR 31 rfl (fun _ => hT3) (by rfl) ?_); simp only [zq1, zq2, zq3, Act.put, zq4, zq5, zq6]
                        (first | (refine tkR 32 (v := ?_) rfl hT3 ⟨by rfl, ?_⟩ ?_; rotate_left; intro w h; (try dsimp only at h); first | (go_simp; done) | (go_simp; with_reducible rfl)) | refine skR 32 rfl (fun _ => hT3) (by rfl) ?_); simp only [zq1, zq2, zq3, Act.put, zq4, zq5, zq6]
                        (first | (refine tkR 33 (v := ?_) rfl hT3 ⟨by rfl, ?_⟩ ?_; rotate_left; intro w h; (try dsimp only at h); first | (go_simp; done) | (go_simp; with_reducible rfl)) | refine skR 33 rfl (fun _ => hT3) (by rfl) ?_); simp only [zq1, zq2, zq3, Act.put, zq4, zq5, zq6]
                        (first | (refine tkR 34 (v := ?_) rfl hT3 ⟨by rfl, ?_⟩ ?_; rotate_left; intro w h; (try dsimp only at h); first | (go_simp; done) | (go_simp; with_reducible rfl)) | refine skR 34 rfl (fun _ => hT3) (by rfl) ?_); simp only [zq1, zq2, zq3, Act.put, zq4, zq5, zq6]
                        refine wpAnyR_one 35 rfl (by kernel_rfl) (fun K hK => ?_)
                        go_simp
                        go_at_call 55
                        refine (sthere_any (P.ng : Int) B3 ((P.I k).a 3).n d3 ((P.I k).a 3).f v3 (HQ3.out.sl HL3.out) (by have := HL3.out.sm; omega)).mono ?_
                        rintro e v4 ⟨rfl, hq⟩
                        have HQ4 := Lib.hid (HQ3.out.then0 hq)
                        have hT4 : v4.cell? ⟨ib, 1, none⟩ = some (.slice B0 ((P.I k).a 0).n d0) ∧ v4.cell? ⟨ib, 2, none⟩ = some (.slice B1 ((P.I k).a 1).n d1) ∧ v4.cell? ⟨ib, 3, none⟩ = some (.slice B2 ((P.I k).a 2).n d2) ∧ v4.cell? ⟨ib, 4, none⟩ = some (.slice B3 ((P.I k).a 3).n d3) ∧ v4.cell? ⟨ib, 5, none⟩ = some (.slice B4 ((P.I k).a 4).n d4) ∧ v4.cell? ⟨ib, 6, none⟩ = some (.slice B5 ((P.I k).a 5).n d5) ∧ v4.cell? ⟨ab, 0, none⟩ = some (.int .i64 (P.nf : Int)) ∧ v4.cell? ⟨ab, 1, none⟩ = some (.int .i64 (P.nt : Int)) ∧ v4.cell? ⟨ab, 2, none⟩ = some (.int .i64 (P.nm : Int)) ∧ v4.cell? ⟨ab, 3, none⟩ = some (.int .i64 (P.ng : Int)) ∧ v4.cell? ⟨ab, 4, none⟩ = some (.int .i64 (P.ne : Int)) ∧ v4.cell? ⟨ab, 5, none⟩ = some (.int .i64 (P.nd : Int)) := ⟨keep0 hq hT3.1, keep0 hq hT3.2.1, keep0 hq hT3.2.2.1, keep0 hq hT3.2.2.2.1, keep0 hq hT3.2.2.2.2.1, keep0 hq hT3.2.2.2.2.2.1, keep0 hq hT3.2.2.2.2.2.2.1, keep0 hq hT3.2.2.2.2.2.2.2.1, keep0 hq hT3.2.2.2.2.2.2.2.2.1, keep0 hq hT3.2.2.2.2.2.2.2.2.2.1, keep0 hq hT3.2.2.2.2.2.2.2.2.2.2.1, keep0 hq hT3.2.2.2.2.2.2.2.2.2.2.2⟩
                        clear hq
                        cases hb3 : belowB ((P.I k).a 3).f ((P.I k).a 3).n (P.ng : Int) with
                        | false =>
                          have HBF := Lib.hid (typed_4 hlt (show instB P (P.I k) = false by unfold instB; rw [hb3, HB0.out, HB1.out, HB2.out]; simp))
                          clear hb3
                          refine hK.out _ _ (fun _ => hT4) ?_
                          clear hK K
                          (first | (refine tkR 36 (v := ?_) rfl hT4 ⟨by rfl, ?_⟩ ?_; rotate_left; intro w h; (try dsimp only at h); first | (go_simp; done) | (go_simp; with_reducible rfl)) | refine skR 36 rfl (fun _ => hT4) (by rfl) ?_); simp only [zq1, zq2, zq3, Act.put, zq4, zq5, zq6]
                          (first | (refine tkR 37 (v := ?_) rfl hT4 ⟨by rfl, ?_⟩ ?_; rotate_left; intro w h; (try dsimp only at h); first | (go_simp; done) | (go_simp; with_reducible rfl)) | refine skR 37 rfl (fun _ => hT4) (by rfl) ?_); simp only [zq1, zq2, zq3, Act.put, zq4, zq5, zq6]
                          (first | (refine tkR 38 (v := ?_) rfl hT4 ⟨by rfl, ?_⟩ ?_; rotate_left; intro w h; (try dsimp only at h); first | (go_simp; done) | (go_simp; with_reducible rfl)) | refine skR 38 rfl (fun _ => hT4) (by rfl) ?_); simp only [zq1, zq2, zq3, Act.put, zq4, zq5, zq6]
                          (first | (refine tkR 39 (v := ?_) rfl hT4 ⟨by rfl, ?_⟩ ?_; rotate_left; intro w h; (try dsimp only at h); first | (go_simp; done) | (go_simp; with_reducible rfl)) | refine skR 39 rfl (fun _ => hT4) (by rfl) ?_); simp only [zq1, zq2, zq3, Act.put, zq4, zq5, zq6]
                          (first | (refine tkR 40 (v := ?_) rfl hT4 ⟨by rfl, ?_⟩ ?_; rotate_left; intro w h; (try dsimp only at h); first | (go_simp; done) | (go_simp; with_reducible rfl)) | refine skR 40 rfl (fun _ => hT4) (by rfl) ?_); simp only [zq1, zq2, zq3, Act.put, zq4, zq5, zq6]
                          (first | (refine tkR 41 (v := ?_) rfl hT4 ⟨by rfl, ?_⟩ ?_; rotate_left; intro w h; (try dsimp only at h); first | (go_simp; done) | (go_simp; with_reducible rfl)) | refine skR 41 rfl (fun _ => hT4) (by rfl) ?_); simp only [zq1, zq2, zq3, Act.put, zq4, zq5, zq6]
                          (first | (refine tkR 42 (v := ?_) rfl hT4 ⟨by rfl, ?_⟩ ?_; rotate_left; intro w h; (try dsimp only at h); first | (go_simp; done) | (go_simp; with_reducible rfl)) | refine skR 42 rfl (fun _ => hT4) (by rfl) ?_); simp only [zq1, zq2, zq3, Act.put, zq4, zq5, zq6]
                          (first | (refine tkR 43 (v := ?_) rfl hT4 ⟨by rfl, ?_⟩ ?_; rotate_left; intro w h; (try dsimp only at h); first | (go_simp; done) | (go_simp; with_reducible rfl)) | refine skR 43 rfl (fun _ => hT4) (by rfl) ?_); simp only [zq1, zq2, zq3, Act.put, zq4, zq5, zq6]
                          (first | (refine tkR 44 (v := ?_) rfl hT4 ⟨by rfl, ?_⟩ ?_; rotate_left; intro w h; (try dsimp only at h); first | (go_simp; done) | (go_simp; with_reducible rfl)) | refine skR 44 rfl (fun _ => hT4) (by rfl) ?_); simp only [zq1, zq2, zq3, Act.put, zq4, zq5, zq6]
                          (first | (refine tkR 45 (v := ?_) rfl hT4 ⟨by rfl, ?_⟩ ?_; rotate_left; intro w h; (try dsimp only at h); first | (go_simp; done) | (go_simp; with_reducible rfl)) | refine skR 45 rfl (fun _ => hT4) (by rfl) ?_); simp only [zq1, zq2, zq3, Act.put, zq4, zq5, zq6]
                          (first | (refine tkR 46 (v := ?_) rfl hT4 ⟨by rfl, ?_⟩ ?_; rotate_left; intro w h; (try dsimp only at h); first | (go_simp; done) | (go_simp; with_reducible rfl)) | refine skR 46 rfl (fun _ => hT4) (by rfl) ?_); simp only [zq1, zq2, zq3, Act.put, zq4, zq5, zq6]
                          (first | (refine tkR 47 (v := ?_) rfl hT4 ⟨by rfl, ?_⟩ ?_; rotate_left; intro w h; (try dsimp only at h); first | (go_simp; done) | (go_simp; with_reducible rfl)) | refine skR 47 rfl (fun _ => hT4) (by rfl) ?_); simp only [zq1, zq2, zq3, Act.put, zq4, zq5, zq6]
                          (first | (refine tkR 48 (v := ?_) rfl hT4 ⟨by rfl, ?_⟩ ?_; rotate_left; intro w h; (try dsimp only at h); first | (go_simp; done) | (go_simp; with_reducible rfl)) | refine skR 48 rfl (fun _ => hT4) (by rfl) ?_); simp only [zq1, zq2, zq3, Act.put, zq4, zq5, zq6]
                          (first | (refine tkR 49 (v := ?_) rfl hT4 ⟨by rfl, ?_⟩ ?_; rotate_left; intro w h; (try dsimp only at h); first | (go_simp; done) | (go_simp; with_reducible rfl)) | refine skR 49 rfl (fun _ => hT4) (by rfl) ?_); simp only [zq1, zq2, zq3, Act.put, zq4, zq5, zq6]
                          (first | (refine tkR 50 (v := ?_) rfl hT4 ⟨by rfl, ?_⟩ ?_; rotate_left; intro w h; (try dsimp only at h); first | (go_simp; done) | (go_simp; with_reducible rfl)) | refine skR 50 rfl (fun _ => hT4) (by rfl) ?_); simp only [zq1, zq2, zq3, Act.put, zq4, zq5, zq6]
                          (first | (refine tkR 51 (v := ?_) rfl hT4 ⟨by rfl, ?_⟩ ?_; rotate_left; intro w h; (try dsimp only at h); first | (go_simp; done) | (go_simp; with_reducible rfl)) | refine skR 51 rfl (fun _ => hT4) (by rfl) ?_); simp only [zq1, zq2, zq3, Act.put, zq4, zq5, zq6]
                          (first | (refine tkR 52 (v := ?_) rfl hT4 ⟨by rfl, ?_⟩ ?_; rotate_left; intro w h; (try dsimp only at h); first | (go_simp; done) | (go_simp; with_reducible rfl)) | refine skR 52 rfl (fun _ => hT4) (by rfl) ?_); simp only [zq1, zq2, zq3, Act.put, zq4, zq5, zq6]
                          (first | (refine tkR 53 (v := ?_) rfl hT4 ⟨by rfl, ?_⟩ ?_; rotate_left; intro w h; (try dsimp only at h); first | (go_simp; done) | (go_simp; with_reducible rfl)) | refine skR 53 rfl (fun _ => hT4) (by rfl) ?_); simp only [zq1, zq2, zq3, Act.put, zq4, zq5, zq6]
                          (first | (refine tkR 54 (v := ?_) rfl hT4 ⟨by rfl, ?_⟩ ?_; rotate_left; intro w h; (try dsimp only at h); first | (go_simp; done) | (go_simp; with_reducible rfl)) | refine skR 54 rfl (fun _ => hT4) (by rfl) ?_); simp only [zq1, zq2, zq3, Act.put, zq4, zq5, zq6]
                          (first | (refine tkR 55 (v := ?_) rfl hT4 ⟨by rfl, ?_⟩ ?_; rotate_left; intro w h; (try dsimp only at h); first | (go_simp; done) | (go_simp; with_reducible rfl)) | refine skR 55 rfl (fun _ => hT4) (by rfl) ?_); simp only [zq1, zq2, zq3, Act.put, zq4, zq5, zq6]
                          (first | (refine tkR 56 (v := ?_) rfl hT4 ⟨by rfl, ?_⟩ ?_; rotate_left; intro w h; (try dsimp only at h); first | (go_simp; done) | (go_simp; with_reducible rfl)) | refine skR 56 rfl (fun _ => hT4) (by rfl) ?_); simp only [zq1, zq2, zq3, Act.put, zq4, zq5, zq6]
                          (first | (refine tkR 57 (v := ?_) rfl hT4 ⟨by rfl, ?_⟩ ?_; rotate_left; intro w h; (try dsimp only at h); first | (go_simp; done) | (go_simp; with_reducible rfl)) | refine skR 57 rfl (fun _ => hT4) (by rfl) ?_); simp only [zq1, zq2, zq3, Act.put, zq4, zq5, zq6]
                          refine wpAnyR_done (by kernel_rfl) ?_ _
                          clear hT3 hT4
                          go_wp2_with fail
                          go_ret
                          exact ⟨ret_bool (by rw [HBF.out]), ((HK.out.then0 HKA.out).then0 HKW.out).then0 HQ4.out.k⟩
                        | true =>
                          have HB3 := Lib.hid hb3
                          clear hb3
                          refine hK.out _ _ (fun _ => hT4) ?_
                          clear hK K hT3
                          (first | (refine tkR 36 (v := ?_) rfl hT4 ⟨by rfl, ?_⟩ ?_; rotate_left; intro w h; (try dsimp only at h); first | (go_simp; done) | (go_simp; with_reducible rfl)) | refine skR 36 rfl (fun _ => hT4) (by rfl) ?_); simp only [zq1, zq2, zq3, Act.put, zq4, zq5, zq6]
                          (first | (refine tkR 37 (v := ?_) rfl hT4 ⟨by rfl, ?_⟩ ?_; rotate_left; intro w h; (try dsimp only at h); first | (go_simp; done) | (go_simp; with_reducible rfl)) | refine skR 37 rfl (fun _ => hT4) (by rfl) ?_); simp only [zq1, zq2, zq3, Act.put, zq4, zq5, zq6]
                          (first | (refine tkR 38 (v := ?_) rfl hT4 ⟨by rfl, ?_⟩ ?_; rotate_left; intro w h; (try dsimp only at h); first | (go_simp; done) | (go_simp; with_reducible rfl)) | refine skR 38 rfl (fun _ => hT4) (by rfl) ?_); simp only [zq1, zq2, zq3, Act.put, zq4, zq5, zq6]
                          (first | (refine tkR 39 (v := ?_) rfl hT4 ⟨by rfl, ?_⟩ ?_; rotate_left; intro w h; (try dsimp only at h); first | (go_simp; done) | (go_simp; with_reducible rfl)) | refine skR 39 rfl (fun _ => hT4) (by rfl) ?_); simp only [zq1, zq2, zq3, Act.put, zq4, zq5, zq6]
                          (first | (refine tkR 40 (v := ?_) rfl hT4 ⟨by rfl, ?_⟩ ?_; rotate_left; intro w h; (try dsimp only at h); first | (go_simp; done) | (go_simp; with_reducible rfl)) | refine skR 40 rfl (fun _ => hT4) (by rfl) ?_); simp only [zq1, zq2, zq3, Act.put, zq4, zq5, zq6]
                          (first | (refine tkR 41 (v := ?_) rfl hT4 ⟨by rfl, ?_⟩ ?_; rotate_left; intro w h; (try dsimp only at h); first | (go_simp; done) | (go_simp; with_reducible rfl)) | refine skR 41 rfl (fun _ => hT4) (by rfl) ?_); simp only [zq1, zq2, zq3, Act.put, zq4, zq5, zq6]
                          (first | (refine tkR 42 (v := ?_) rfl hT4 ⟨by rfl, ?_⟩ ?_; rotate_left; intro w h; (try dsimp only at h); first | (go_simp; done) | (go_simp; with_reducible rfl)) | refine skR 42 rfl (fun _ => hT4) (by rfl) ?_); simp only [zq1, zq2, zq3, Act.put, zq4, zq5, zq6]
                          (first | (refine tkR 43 (v := ?_) rfl hT4 ⟨by rfl, ?_⟩ ?_; rotate_left; intro w h; (try dsimp only at h); first | (go_simp; done) | (go_simp; with_reducible rfl)) | refine skR 43 rfl (fun _ => hT4) (by rfl) ?_); simp only [zq1, zq2, zq3, Act.put, zq4, zq5, zq6]
                          (first | (refine tkR 44 (v := ?_) rfl hT4 ⟨by rfl, ?_⟩ ?_; rotate_left; intro w h; (try dsimp only at h); first | (go_simp; done) | (go_simp; with_reducible rfl)) | refine skR 44 rfl (fun _ => hT4) (by rfl) ?_); simp only [zq1, zq2, zq3, Act.put, zq4, zq5, zq6]
                          refine wpAnyR_one 45 rfl (by kernel_rfl) (fun K hK => ?_)
                          go_simp
                          go_at_call 55
                          refine (sthere_any (P.ne : Int) B4 ((P.I k).a 4).n d4 ((P.I k).a 4).f v4 (HQ4.out.sl HL4.out) (by have := HL4.out.sm; omega)).mono ?_
                          rintro e v5 ⟨rfl, hq⟩
                          have HQ5 := Lib.hid (HQ4.out.then0 hq)
                          have hT5 : v5.cell? ⟨ib, 1, none⟩ = some (.slice B0 ((P.I k).a 0).n d0) ∧ v5.cell? ⟨ib, 2, none⟩ = some (.slice B1 ((P.I k).a 1).n d1) ∧ v5.cell? ⟨ib, 3, none⟩ = some (.slice B2 ((P.I k).a 2).n d2) ∧ v5.cell? ⟨ib, 4, none⟩ = some (.slice B3 ((P.I k).a 3).n d3) ∧ v5.cell? ⟨ib, 5, none⟩ = some (.slice B4 ((P.I k).a 4).n d4) ∧ v5.cell? ⟨ib, 6, none⟩ = some (.slice B5 ((P.I k).a 5).n d5) ∧ v5.cell? ⟨ab, 0, none⟩ = some (.int .i64 (P.nf : Int)) ∧ v5.cell? ⟨ab, 1, none⟩ = some (.int .i64 (P.nt : Int)) ∧ v5.cell? ⟨ab, 2, none⟩ = some (.int .i64 (P.nm : Int)) ∧ v5.cell? ⟨ab, 3, none⟩ = some (.int .i64 (P.ng : Int)) ∧ v5.cell? ⟨ab, 4, none⟩ = some (.int .i64 (P.ne : Int)) ∧ v5.cell? ⟨ab, 5, none⟩ = some (.int .i64 (P.nd : Int)) := ⟨keep0 hq hT4.1, keep0 hq hT4.2.1, keep0 hq hT4.2.2.1, keep0 hq hT4.2.2.2.1, keep0 hq hT4.2.2.2.2.1, keep0 hq hT4.2.2.2.2.2.1, keep0 hq hT4.2.2.2.2.2.2.1, keep0 hq hT4.2.2.2.2.2.2.2.1, keep0 hq hT4.2.2.2.2.2.2.2.2.1, keep0 hq hT4.2.2.2.2.2.2.2.2.2.1, keep0 hq hT4.2.2.2.2.2.2.2.2.2.2.1, keep0 hq hT4.2.2.2.2.2.2.2.2.2.2.2⟩
                          clear hq
                          cases hb4 : belowB ((P.I k).a 4).f ((P.I k).a 4).n (P.ne : Int) with
                          | false =>
                            have HBF := Lib.hid (typed_4 hlt (show instB P (P.I k) = false by unfold instB; rw [hb4, HB0.out, HB1.out, HB2.out, HB3.out]; simp))
                            clear hb4
                            refine hK.out _ _ (fun _ => hT5) ?_
                            clear hK K
                            (first | (refine tkR 46 (v := ?_) rfl hT5 ⟨by rfl, ?_⟩ ?_; rotate_left; intro w h; (try dsimp only at h); first | (go_simp; done) | (go_simp; with_reducible rfl)) | refine skR 46 rfl (fun _ => hT5) (by rfl) ?_); simp only [zq1, zq2, zq3, Act.put, zq4, zq5, zq6]
                            (first | (refine tkR 47 (v := ?_) rfl hT5 ⟨by rfl, ?_⟩ ?_; rotate_left; intro w h; (try dsimp only at h); first | (go_simp; done) | (go_simp; with_reducible rfl)) | refine skR 47 rfl (fun _ => hT5) (by rfl) ?_); simp only [zq1, zq2, zq3, Act.put, zq4, zq5, zq6]
                            (first | (refine tkR 48 (v := ?_) rfl hT5 ⟨by rfl, ?_⟩ ?_; rotate_left; intro w h; (try dsimp only at h); first | (go_simp; done) | (go_simp; with_reducible rfl)) | refine skR 48 rfl (fun _ => hT5) (by rfl) ?_); simp only [zq1, zq2, zq3, Act.put, zq4, zq5, zq6]
                            (first | (refine tkR 49 (v := ?_) rfl hT5 ⟨by rfl, ?_⟩ ?_; rotate_left; intro w h; (try dsimp only at h); first | (go_simp; done) | (go_simp; with_reducible rfl)) | refine skR 49 rfl (fun _ => hT5) (by rfl) ?_); simp only [zq1, zq2, zq3, Act.put, zq4, zq5, zq6]
                            (first | (refine tkR 50 (v := ?_) rfl hT5 ⟨by rfl, ?_⟩ ?_; rotate_left; intro w h; (try dsimp only at h); first | (go_simp; done) | (go_simp; with_reducible rfl)) | refine skR 50 rfl (fun _ => hT5) (by rfl) ?_); simp only [zq1, zq2, zq3, Act.put, zq4, zq5, zq6]
                            (first | (refine tkR 51 (v := ?_) rfl hT5 ⟨by rfl, ?_⟩ ?_; rotate_left; intro w h; (try dsimp only at h); first | (go_simp; done) | (go_simp; with_reducible rfl)) | refine skR 51 rfl (fun _ => hT5) (by rfl) ?_); simp only [zq1, zq2, zq3, Act.put, zq4, zq5, zq6]
                            (first | (refine tkR 52 (v := ?_) rfl hT5 ⟨by rfl, ?_⟩ ?_; rotate_left; intro w h; (try dsimp only at h); first | (go_simp; done) | (go_simp; with_reducible rfl)) | refine skR 52 rfl (fun _ => hT5) (by rfl) ?_); simp only [zq1, zq2, zq3, Act.put, zq4, zq5, zq6]
                            (first | (refine tkR 53 (v := ?_) rfl hT5 ⟨by rfl, ?_⟩ ?_; rotate_left; intro w h; (try dsimp only at h); first | (go_simp; done) | (go_simp; with_reducible rfl)) | refine skR 53 rfl (fun _ => hT5) (by rfl) ?_); simp only [zq1, zq2, zq3, Act.put, zq4, zq5, zq6]
                            (first | (refine tkR 54 (v := ?_) rfl hT5 ⟨by rfl, ?_⟩ ?_; rotate_left; intro w h; (try dsimp only at h); first | (go_simp; done) | (go_simp; with_reducible rfl)) | refine skR 54 rfl (fun _ => hT5) (by rfl) ?_); simp only [zq1, zq2, zq3, Act.put, zq4, zq5, zq6]
                            (first | (refine tkR 55 (v := ?_) rfl hT5 ⟨by rfl, ?_⟩ ?_; rotate_left; intro w h; (try dsimp only at h); first | (go_simp; done) | (go_simp; with_reducible rfl)) | refine skR 55 rfl (fun _ => hT5) (by rfl) ?_); simp only [zq1, zq2, zq3, Act.put, zq4, zq5, zq6]
                            (first | (refine tkR 56 (v := ?_) rfl hT5 ⟨by rfl, ?_⟩ ?_; rotate_left; intro w h; (try dsimp only at h); first | (go_simp; done) | (go_simp; with_reducible rfl)) | refine skR 56 rfl (fun _ => hT5) (by rfl) ?_); simp only [zq1, zq2, zq3, Act.put, zq4, zq5, zq6]
                            (first | (refine tkR 57 (v := ?_) rfl hT5 ⟨by rfl, ?_⟩ ?_; rotate_left; intro w h; (try dsimp only at h); first | (go_simp; done) | (go_simp; with_reducible rfl)) | refine skR 57 rfl (fun _ => hT5) (by rfl) ?_); simp only [zq1, zq2, zq3, Act.put, zq4, zq5, zq6]
                            refine wpAnyR_done (by kernel_rfl) ?_ _
                            clear hT4 hT5
                            go_wp2_with fail
                            go_ret
                            exact ⟨ret_bool (by rw [HBF.out]), ((HK.out.then0 HKA.out).then0 HKW.out).then0 HQ5.out.k⟩
                          | true =>
                            have HB4 := Lib.hid hb4
                            clear hb4
                            refine hK.out _ _ (fun _ => hT5) ?_
                            clear hK K hT4
                            (first | (refine tkR 46 (v := ?_) rfl hT5 ⟨by rfl, ?_⟩ ?_; rotate_left; intro w h; (try dsimp only at h); first | (go_simp; done) | (go_simp; with_reducible rfl)) | refine skR 46 rfl (fun _ => hT5) (by rfl) ?_); simp only [zq1, zq2, zq3, Act.put, zq4, zq5, zq6]
                            (first | (refine tkR 47 (v := ?_) rfl hT5 ⟨by rfl, ?_⟩ ?_; rotate_left; intro w h; (try dsimp only at h); first | (go_simp; done) | (go_simp; with_reducible rfl)) | refine skR 47 rfl (fun _ => hT5) (by rfl) ?_); simp only [zq1, zq2, zq3, Act.put, zq4, zq5, zq6]
                            (first | (refine tkR 48 (v := ?_) rfl hT5 ⟨by rfl, ?_⟩ ?_; rotate_left; intro w h; (try dsimp only at h); first | (go_simp; done) | (go_simp; with_reducible rfl)) | refine skR 48 rfl (fun _ => hT5) (by rfl) ?_); simp only [zq1, zq2, zq3, Act.put, zq4, zq5, zq6]
                            (first | (refine tkR 49 (v := ?_) rfl hT5 ⟨by rfl, ?_⟩ ?_; rotate_left; intro w h; (try dsimp only at h); first | (go_simp; done) | (go_simp; with_reducible rfl)) | refine skR 49 rfl (fun _ => hT5) (by rfl) ?_); simp only [zq1, zq2, zq3, Act.put, zq4, zq5, zq6]
                            (first | (refine tkR 50 (v := ?_) rfl hT5 ⟨by rfl, ?_⟩ ?_; rotate_left; intro w h; (try dsimp only at h); first | (go_simp; done) | (go_simp; with_reducible rfl)) | refine skR 50 rfl (fun _ => hT5) (by rfl) ?_); simp only [zq1, zq2, zq3, Act.put, zq4, zq5, zq6]
                            (first | (refine tkR 51 (v := ?_) rfl hT5 ⟨by rfl, ?_⟩ ?_; rotate_left; intro w h; (try dsimp only at h); first | (go_simp; done) | (go_simp; with_reducible rfl)) | refine skR 51 rfl (fun _ => hT5) (by rfl) ?_); simp only [zq1, zq2, zq3, Act.put, zq4, zq5, zq6]
                            (first | (refine tkR 52 (v := ?_) rfl hT5 ⟨by rfl, ?_⟩ ?_; rotate_left; intro w h; (try dsimp only at h); first | (go_simp; done) | (go_simp; with_reducible rfl)) | refine skR 52 rfl (fun _ => hT5) (by rfl) ?_); simp only [zq1, zq2, zq3, Act.put, zq4, zq5, zq6]
                            (first | (refine tkR 53 (v := ?_) rfl hT5 ⟨by rfl, ?_⟩ ?_; rotate_left; intro w h; (try dsimp only at h); first | (go_simp; done) | (go_simp; with_reducible rfl)) | refine skR 53 rfl (fun _ => hT5) (by rfl) ?_); simp only [zq1, zq2, zq3, Act.put, zq4, zq5, zq6]
                            (first | (refine tkR 54 (v := ?_) rfl hT5 ⟨by rfl, ?_⟩ ?_; rotate_left; intro w h; (try dsimp only at h); first | (go_simp; done) | (go_simp; with_reducible rfl)) | refine skR 54 rfl (fun _ => hT5) (by rfl) ?_); simp only [zq1, zq2, zq3, Act.put, zq4, zq5, zq6]
                            refine wpAnyR_one 55 rfl (by kernel_rfl) (fun K hK => ?_)
                            go_simp
                            go_at_call 55
                            refine (sthere_any (P.nd : Int) B5 ((P.I k).a 5).n d5 ((P.I k).a 5).f v5 (HQ5.out.sl HL5.out) (by have := HL5.out.sm; omega)).mono ?_
                            rintro e v6 ⟨rfl, hq⟩
                            have HQ6 := Lib.hid (HQ5.out.then0 hq)
                            have hT6 : v6.cell? ⟨ib, 1, none⟩ = some (.slice B0 ((P.I k).a 0).n d0) ∧ v6.cell? ⟨ib, 2, none⟩ = some (.slice B1 ((P.I k).a 1).n d1) ∧ v6.cell? ⟨ib, 3, none⟩ = some (.slice B2 ((P.I k).a 2).n d2) ∧ v6.cell? ⟨ib, 4, none⟩ = some (.slice B3 ((P.I k).a 3).n d3) ∧ v6.cell? ⟨ib, 5, none⟩ = some (.slice B4 ((P.I k).a 4).n d4) ∧ v6.cell? ⟨ib, 6, none⟩ = some (.slice B5 ((P.I k).a 5).n d5) ∧ v6.cell? ⟨ab, 0, none⟩ = some (.int .i64 (P.nf : Int)) ∧ v6.cell? ⟨ab, 1, none⟩ = some (.int .i64 (P.nt : Int)) ∧ v6.cell? ⟨ab, 2, none⟩ = some (.int .i64 (P.nm : Int)) ∧ v6.cell? ⟨ab, 3, none⟩ = some (.int .i64 (P.ng : Int)) ∧ v6.cell? ⟨ab, 4, none⟩ = some (.int .i64 (P.ne : Int)) ∧ v6.cell? ⟨ab, 5, none⟩ = some (.int .i64 (P.nd : Int)) := ⟨keep0 hq hT5.1, keep0 hq hT5.2.1, keep0 hq hT5.2.2.1, keep0 hq hT5.2.2.2.1, keep0 hq hT5.2.2.2.2.1, keep0 hq hT5.2.2.2.2.2.1, keep0 hq hT5.2.2.2.2.2.2.1, keep0 hq hT5.2.2.2.2.2.2.2.1, keep0 hq hT5.2.2.2.2.2.2.2.2.1, keep0 hq hT5.2.2.2.2.2.2.2.2.2.1, keep0 hq hT5.2.2.2.2.2.2.2.2.2.2.1, keep0 hq hT5.2.2.2.2.2.2.2.2.2.2.2⟩
                            clear hq
                            cases hb5 : belowB ((P.I k).a 5).f ((P.I k).a 5).n (P.nd : Int) with
                            | false =>
                              have HBF := Lib.hid (typed_4 hlt (show instB P (P.I k) = false by unfold instB; rw [hb5, HB0.out, HB1.out, HB2.out, HB3.out, HB4.out]; simp))
                              clear hb5
                              refine hK.out _ _ (fun _ => hT6) ?_
                              clear hK K
                              (first | (refine tkR 56 (v := ?_) rfl hT6 ⟨by rfl, ?_⟩ ?_; rotate_left; intro w h; (try dsimp only at h); first | (go_simp; done) | (go_simp; with_reducible rfl)) | refine skR 56 rfl (fun _ => hT6) (by rfl) ?_); simp only [zq1, zq2, zq3, Act.put, zq4, zq5, zq6]
                              (first | (refine tkR 57 (v := ?_) rfl hT6 ⟨by rfl, ?_⟩ ?_; rotate_left; intro w h; (try dsimp only at h); first | (go_simp; done) | (go_simp; with_reducible rfl)) | refine skR 57 rfl (fun _ => hT6) (by rfl) ?_); simp only [zq1, zq2, zq3, Act.put, zq4, zq5, zq6]
                              refine wpAnyR_done (by kernel_rfl) ?_ _
                              clear hT5 hT6
                              go_wp2_with fail
                              go_ret
                              exact ⟨ret_bool (by rw [HBF.out]), ((HK.out.then0 HKA.out).then0 HKW.out).then0 HQ6.out.k⟩
                            | true =>
                              have HB5 := Lib.hid hb5
                              clear hb5
                              refine hK.out _ _ (fun _ => hT6) ?_
                              clear hK K hT5
                              (first | (refine tkR 56 (v := ?_) rfl hT6 ⟨by rfl, ?_⟩ ?_; rotate_left; intro w h; (try dsimp only at h); first | (go_simp; done) | (go_simp; with_reducible rfl)) | refine skR 56 rfl (fun _ => hT6) (by rfl) ?_); simp only [zq1, zq2, zq3, Act.put, zq4, zq5, zq6]
                              (first | (refine tkR 57 (v := ?_) rfl hT6 ⟨by rfl, ?_⟩ ?_; rotate_left; intro w h; (try dsimp only at h); first | (go_simp; done) | (go_simp; with_reducible rfl)) | refine skR 57 rfl (fun _ => hT6) (by rfl) ?_); simp only [zq1, zq2, zq3, Act.put, zq4, zq5, zq6]
                              refine wpAnyR_done (by kernel_rfl) ?_ _
                              have m8 : v6.cell? ⟨ib, 8, none⟩ = some (.slice XA (P.I k).en xc) := keep0 HQ6.out.k HM8.out
                              have arr := fun (j : Nat) (hj : j < 4) => (show ∃ z, v6.cell? ⟨ab, j, none⟩ = some (.int .i64 z) ∧ z = (P.sz j : Int) from by
                                match j, hj with
                                | 0, _ => exact ⟨_, hT6.2.2.2.2.2.2.1, rfl⟩
                                | 1, _ => exact ⟨_, hT6.2.2.2.2.2.2.2.1, rfl⟩
                                | 2, _ => exact ⟨_, hT6.2.2.2.2.2.2.2.2.1, rfl⟩
                                | 3, _ => exact ⟨_, hT6.2.2.2.2.2.2.2.2.2.1, rfl⟩)
                              have HARR := Lib.hid arr
                              have hen : (P.I k).en ≤ 4398046511104 := by have := HXL.out.sm; omega
                              clear hT6 arr
                              go_wp2_with fail
                              clear m8
                              go_loopw [150] (fun i wr => ∃ x : Nat, x ≤ (P.I k).en ∧ i = .int .i64 (x : Int) ∧ (∀ j, j < x → expB P ((P.I k).ek j) ((P.I k).ea j) = true) ∧ Kept S0 v6 wr) (fun i _ => (P.I k).en - (intOf i).toNat)
                              case atStart => exact ⟨0, by omega, rfl, fun j hj => absurd hj (by omega), Kept.refl S0 v6⟩
                              case round =>
                                obtain ⟨x, hxk, rfl, hok, hkw⟩ := hrel
                                have HXK := Lib.hid hok
                                have HXW := Lib.hid hkw
                                clear hok hkw
                                by_cases hxl : x < (P.I k).en
                                · obtain ⟨nms, hnms⟩ := HXF.out.nm x hxl
                                  have hkd := HXF.out.kd x hxl
                                  have had := HXF.out.ad x hxl
                                  obtain ⟨kb0, kb1⟩ := HXF.out.kb x hxl
                                  have hxs := ((HQ6.out.k.then0 HXW.out) : Kept S0 _ wr)
                                  obtain ⟨b1, o1, hAe, hc⟩ := (HXL.out.sl.slb.kept hxs (Nat.le_refl _) (fun _ h => h.elim)).sl (by omega)
                                  subst hAe
                                  have q0 : wr.cell? ⟨b1, o1 + x * 3, none⟩ = some (.string nms) := by rw [← hnms]; exact hc _ (by omega)
                                  have q1 : wr.cell? ⟨b1, o1 + x * 3 + 1, none⟩ = some (.int .u8 ((P.I k).ek x)) := by rw [← hkd, Nat.add_assoc]; exact hc _ (by omega)
                                  have q2 : wr.cell? ⟨b1, o1 + x * 3 + 2, none⟩ = some (.int .i64 ((P.I k).ea x)) := by rw [← had, Nat.add_assoc]; exact hc _ (by omega)
                                  have i0 : (0 : Int) ≤ (x : Int) := by omega
                                  have i1 : (x : Int) < ((P.I k).en : Int) := by omega
                                  have hal : Kept S0 wr (wr.alloc (.cells #[.string nms, .int .u8 ((P.I k).ek x), .int .i64 ((P.I k).ea x)] 158)) := (Kept.refl S0 wr).alloc _
                                  have HBN := Lib.hid (Blk.new wr 158 #[.string nms, .int .u8 ((P.I k).ek x), .int .i64 ((P.I k).ea x)])
                                  have HXA := Lib.hid (HXW.out.then0 hal)
                                  clear hnms hkd had hxs hc hal
                                  go_wp2_with fail
                                  generalize hnb : wr.heap.size = nb at *
                                  generalize wr.alloc (.cells #[.string nms, .int .u8 ((P.I k).ek x), .int .i64 ((P.I k).ea x)] 158) = wn at *
                                  clear hnb q0 q1 q2
                                  cases hk3 : decide ((P.I k).ek x ≤ 3) with
                                  | false =>
                                    have hk4 : decide (3 < (P.I k).ek x) = true := decide_eq_true (by have := of_decide_eq_false hk3; omega)
                                    have HBF := Lib.hid (typed_4 hlt (show instB P (P.I k) = false by unfold instB; rw [rall_false (n := (P.I k).en) hxl (show expB P ((P.I k).ek x) ((P.I k).ea x) = false by unfold expB; rw [hk3]; rfl)]; simp))
                                    clear hk3
                                    have hS : wn.drew.cell? ⟨nb, 1, none⟩ = some (.int .u8 ((P.I k).ek x)) := HBN.out.cell 1
                                    refine wp_region_R (fun w' => w'.cell? ⟨nb, 1, none⟩ = some (.int .u8 ((P.I k).ek x))) [] (by kernel_rfl) ?_
                                    have HXD := Lib.hid HXA.out.drew
                                    generalize wn.drew = wm at *
                                    (first | (refine tkR 0 (v := ?_) rfl hS ⟨by rfl, ?_⟩ ?_; rotate_left; intro w h; (try dsimp only at h); first | (go_simp; done) | (go_simp; with_reducible rfl)) | refine skR 0 rfl (fun _ => hS) (by rfl) ?_); simp only [zq1, zq2, Act.put, zq4, zq5, zq6]
                                    (first | (refine tkR 1 (v := ?_) rfl hS ⟨by rfl, ?_⟩ ?_; rotate_left; intro w h; (try dsimp only at h); first | (go_simp; done) | (go_simp; with_reducible rfl)) | refine skR 1 rfl (fun _ => hS) (by rfl) ?_); simp only [zq1, zq2, zq3, Act.put, zq4, zq5, zq6]
                                    (first | (refine tkR 2 (v := ?_) rfl hS ⟨by rfl, ?_⟩ ?_; rotate_left; intro w h; (try dsimp only at h); first | (go_simp; done) | (go_simp; with_reducible rfl)) | refine skR 2 rfl (fun _ => hS) (by rfl) ?_); simp only [zq1, zq2, zq3, Act.put, zq4, zq5, zq6]
                                    (first | (refine tkR 3 (v := ?_) rfl hS ⟨by rfl, ?_⟩ ?_; rotate_left; intro w h; (try dsimp only at h); first | (go_simp; done) | (go_simp; with_reducible rfl)) | refine skR 3 rfl (fun _ => hS) (by rfl) ?_); simp only [zq1, zq2, zq3, Act.put, zq4, zq5, zq6]
                                    (first | (refine tkR 4 (v := ?_) rfl hS ⟨by rfl, ?_⟩ ?_; rotate_left; intro w h; (try dsimp only at h); first | (go_simp; done) | (go_simp; with_reducible rfl)) | refine skR 4 rfl (fun _ => hS) (by rfl) ?_); simp only [zq1, zq2, zq3, Act.put, zq4, zq5, zq6]
                                    (first | (refine tkR 5 (v := ?_) rfl hS ⟨by rfl, ?_⟩ ?_; rotate_left; intro w h; (try dsimp only at h); first | (go_simp; done) | (go_simp; with_reducible rfl)) | refine skR 5 rfl (fun _ => hS) (by rfl) ?_); simp only [zq1, zq2, zq3, Act.put, zq4, zq5, zq6]
                                    (first | (refine tkR 6 (v := ?_) rfl hS ⟨by rfl, ?_⟩ ?_; rotate_left; intro w h; (try dsimp only at h); first | (go_simp; done) | (go_simp; with_reducible rfl)) | refine skR 6 rfl (fun _ => hS) (by rfl) ?_); simp only [zq1, zq2, zq3, Act.put, zq4, zq5, zq6]
                                    (first | (refine tkR 7 (v := ?_) rfl hS ⟨by rfl, ?_⟩ ?_; rotate_left; intro w h; (try dsimp only at h); first | (go_simp; done) | (go_simp; with_reducible rfl)) | refine skR 7 rfl (fun _ => hS) (by rfl) ?_); simp only [zq1, zq2, zq3, Act.put, zq4, zq5, zq6]
                                    (first | (refine tkR 8 (v := ?_) rfl hS ⟨by rfl, ?_⟩ ?_; rotate_left; intro w h; (try dsimp only at h); first | (go_simp; done) | (go_simp; with_reducible rfl)) | refine skR 8 rfl (fun _ => hS) (by rfl) ?_); simp only [zq1, zq2, zq3, Act.put, zq4, zq5, zq6]
                                    (first | (refine tkR 9 (v := ?_) rfl hS ⟨by rfl, ?_⟩ ?_; rotate_left; intro w h; (try dsimp only at h); first | (go_simp; done) | (go_simp; with_reducible rfl)) | refine skR 9 rfl (fun _ => hS) (by rfl) ?_); simp only [zq1, zq2, zq3, Act.put, zq4, zq5, zq6]
                                    (first | (refine tkR 10 (v := ?_) rfl hS ⟨by rfl, ?_⟩ ?_; rotate_left; intro w h; (try dsimp only at h); first | (go_simp; done) | (go_simp; with_reducible rfl)) | refine skR 10 rfl (fun _ => hS) (by rfl) ?_); simp only [zq1, zq2, zq3, Act.put, zq4, zq5, zq6]
                                    (first | (refine tkR 11 (v := ?_) rfl hS ⟨by rfl, ?_⟩ ?_; rotate_left; intro w h; (try dsimp only at h); first | (go_simp; done) | (go_simp; with_reducible rfl)) | refine skR 11 rfl (fun _ => hS) (by rfl) ?_); simp only [zq1, zq2, zq3, Act.put, zq4, zq5, zq6]
                                    (first | (refine tkR 12 (v := ?_) rfl hS ⟨by rfl, ?_⟩ ?_; rotate_left; intro w h; (try dsimp only at h); first | (go_simp; done) | (go_simp; with_reducible rfl)) | refine skR 12 rfl (fun _ => hS) (by rfl) ?_); simp only [zq1, zq2, zq3, Act.put, zq4, zq5, zq6]
                                    (first | (refine tkR 13 (v := ?_) rfl hS ⟨by rfl, ?_⟩ ?_; rotate_left; intro w h; (try dsimp only at h); first | (go_simp; done) | (go_simp; with_reducible rfl)) | refine skR 13 rfl (fun _ => hS) (by rfl) ?_); simp only [zq1, zq2, zq3, Act.put, zq4, zq5, zq6]
                                    (first | (refine tkR 14 (v := ?_) rfl hS ⟨by rfl, ?_⟩ ?_; rotate_left; intro w h; (try dsimp only at h); first | (go_simp; done) | (go_simp; with_reducible rfl)) | refine skR 14 rfl (fun _ => hS) (by rfl) ?_); simp only [zq1, zq2, zq3, Act.put, zq4, zq5, zq6]
                                    (first | (refine tkR 15 (v := ?_) rfl hS ⟨by rfl, ?_⟩ ?_; rotate_left; intro w h; (try dsimp only at h); first | (go_simp; done) | (go_simp; with_reducible rfl)) | refine skR 15 rfl (fun _ => hS) (by rfl) ?_); simp only [zq1, zq2, zq3, Act.put, zq4, zq5, zq6]
                                    (first | (refine tkR 16 (v := ?_) rfl hS ⟨by rfl, ?_⟩ ?_; rotate_left; intro w h; (try dsimp only at h); first | (go_simp; done) | (go_simp; with_reducible rfl)) | refine skR 16 rfl (fun _ => hS) (by rfl) ?_); simp only [zq1, zq2, zq3, Act.put, zq4, zq5, zq6]
                                    refine wpAnyR_done (by kernel_rfl) ?_ _
                                    clear hS
                                    go_wp2_with fail
                                    go_ret
                                    exact ⟨ret_bool (by rw [HBF.out]), (((HK.out.then0 HKA.out).then0 HKW.out).then0 HQ6.out.k).then0 HXD.out⟩
                                  | true =>
                                    have hk4 : decide (3 < (P.I k).ek x) = false := decide_eq_false (by have := of_decide_eq_true hk3; omega)
                                    obtain ⟨y, hy⟩ := Int.eq_ofNat_of_zero_le kb0
                                    have hy4 : y < 4 := by have := of_decide_eq_true hk3; omega
                                    obtain ⟨z, hz, hzz⟩ := HARR.out y hy4
                                    have HY := Lib.hid hy
                                    have HZ := Lib.hid hzz
                                    have HK3 := Lib.hid hk3
                                    rw [hy] at hk4
                                    clear hk3 kb0 kb1 hy hzz
                                    have j0 : (0 : Int) ≤ (y : Int) := by omega
                                    have j1 : (y : Int) < 7 := by omega
                                    have hS : wn.drew.cell? ⟨nb, 1, none⟩ = some (.int .u8 (y : Int)) ∧ wn.drew.cell? ⟨nb, 1 + 1, none⟩ = some (.int .i64 ((P.I k).ea x)) ∧ wn.drew.cell? ⟨ab, y, none⟩ = some (.int .i64 z) := ⟨by rw [← HY.out]; exact HBN.out.cell 1, HBN.out.cell 2, keep0 HXA.out.drew hz⟩
                                    refine wp_region_R (fun w' => w'.cell? ⟨nb, 1, none⟩ = some (.int .u8 (y : Int)) ∧ w'.cell? ⟨nb, 1 + 1, none⟩ = some (.int .i64 ((P.I k).ea x)) ∧ w'.cell? ⟨ab, y, none⟩ = some (.int .i64 z)) [] (by kernel_rfl) ?_
                                    have HXD := Lib.hid HXA.out.drew
                                    clear hz
                                    generalize wn.drew = wm at *
                                    (first | (refine tkR 0 (v := ?_) rfl hS ⟨by rfl, ?_⟩ ?_; rotate_left; intro w h; (try dsimp only at h); first | (go_simp; done) | (go_simp; with_reducible rfl)) | refine skR 0 rfl (fun _ => hS) (by rfl) ?_); simp only [zq1, zq2, Act.put, zq4, zq5, zq6]
                                    (first | (refine tkR 1 (v := ?_) rfl hS ⟨by rfl, ?_⟩ ?_; rotate_left; intro w h; (try dsimp only at h); first | (go_simp; done) | (go_simp; with_reducible rfl)) | refine skR 1 rfl (fun _ => hS) (by rfl) ?_); simp only [zq1, zq2, zq3, Act.put, zq4, zq5, zq6]
                                    (first | (refine tkR 2 (v := ?_) rfl hS ⟨by rfl, ?_⟩ ?_; rotate_left; intro w h; (try dsimp only at h); first | (go_simp; done) | (go_simp; with_reducible rfl)) | refine skR 2 rfl (fun _ => hS) (by rfl) ?_); simp only [zq1, zq2, zq3, Act.put, zq4, zq5, zq6]
                                    (first | (refine tkR 3 (v := ?_) rfl hS ⟨by rfl, ?_⟩ ?_; rotate_left; intro w h; (try dsimp only at h); first | (go_simp; done) | (go_simp; with_reducible rfl)) | refine skR 3 rfl (fun _ => hS) (by rfl) ?_); simp only [zq1, zq2, zq3, Act.put, zq4, zq5, zq6]
                                    (first | (refine tkR 4 (v := ?_) rfl hS ⟨by rfl, ?_⟩ ?_; rotate_left; intro w h; (try dsimp only at h); first | (go_simp; done) | (go_simp; with_reducible rfl)) | refine skR 4 rfl (fun _ => hS) (by rfl) ?_); simp only [zq1, zq2, zq3, Act.put, zq4, zq5, zq6]
                                    (first | (refine tkR 5 (v := ?_) rfl hS ⟨by rfl, ?_⟩ ?_; rotate_left; intro w h; (try dsimp only at h); first | (go_simp; done) | (go_simp; with_reducible rfl)) | refine skR 5 rfl (fun _ => hS) (by rfl) ?_); simp only [zq1, zq2, zq3, Act.put, zq4, zq5, zq6]
                                    (first | (refine tkR 6 (v := ?_) rfl hS ⟨by rfl, ?_⟩ ?_; rotate_left; intro w h; (try dsimp only at h); first | (go_simp; done) | (go_simp; with_reducible rfl)) | refine skR 6 rfl (fun _ => hS) (by rfl) ?_); simp only [zq1, zq2, zq3, Act.put, zq4, zq5, zq6]
                                    (first | (refine tkR 7 (v := ?_) rfl hS ⟨by rfl, ?_⟩ ?_; rotate_left; intro w h; (try dsimp only at h); first | (go_simp; done) | (go_simp; with_reducible rfl)) | refine skR 7 rfl (fun _ => hS) (by rfl) ?_); simp only [zq1, zq2, zq3, Act.put, zq4, zq5, zq6]
                                    (first | (refine tkR 9 (v := ?_) rfl hS ⟨by rfl, ?_⟩ ?_; rotate_left; intro w h; (try dsimp only at h); first | (go_simp; done) | (go_simp; with_reducible rfl)) | refine skR 9 rfl (fun _ => hS) (by rfl) ?_); simp only [zq1, zq2, zq3, Act.put, zq4, zq5, zq6]
                                    (first | (refine tkR 10 (v := ?_) rfl hS ⟨by rfl, ?_⟩ ?_; rotate_left; intro w h; (try dsimp only at h); first | (go_simp; done) | (go_simp; with_reducible rfl)) | refine skR 10 rfl (fun _ => hS) (by rfl) ?_); simp only [zq1, zq2, zq3, Act.put, zq4, zq5, zq6]
                                    (first | (refine tkR 11 (v := ?_) rfl hS ⟨by rfl, ?_⟩ ?_; rotate_left; intro w h; (try dsimp only at h); first | (go_simp; done) | (go_simp; with_reducible rfl)) | refine skR 11 rfl (fun _ => hS) (by rfl) ?_); simp only [zq1, zq2, zq3, Act.put, zq4, zq5, zq6]
                                    (first | (refine tkR 12 (v := ?_) rfl hS ⟨by rfl, ?_⟩ ?_; rotate_left; intro w h; (try dsimp only at h); first | (go_simp; done) | (go_simp; with_reducible rfl)) | refine skR 12 rfl (fun _ => hS) (by rfl) ?_); simp only [zq1, zq2, zq3, Act.put, zq4, zq5, zq6]
                                    (first | (refine tkR 13 (v := ?_) rfl hS ⟨by rfl, ?_⟩ ?_; rotate_left; intro w h; (try dsimp only at h); first | (go_simp; done) | (go_simp; with_reducible rfl)) | refine skR 13 rfl (fun _ => hS) (by rfl) ?_); simp only [zq1, zq2, zq3, Act.put, zq4, zq5, zq6]
                                    refine wpAnyR_one 8 rfl (by kernel_rfl) (fun K hK => ?_)
                                    go_simp
                                    have hal : Kept S0 wm (wm.alloc (.cells #[.int .i64 ((P.I k).ea x)] 3)) := (Kept.refl S0 wm).alloc _
                                    have hsl : Sl (wm.alloc (.cells #[.int .i64 ((P.I k).ea x)] 3)) (some ⟨wm.heap.size, 0, none⟩) 1 (intV (fun _ => (P.I k).ea x)) := fun _ => ⟨_, 0, rfl, fun i hi => by
                                      rw [Nat.zero_add]
                                      match i, hi with
                                      | 0, _ => exact (Blk.new wm 3 #[.int .i64 ((P.I k).ea x)]).cell 0⟩
                                    have hS2 : (wm.alloc (.cells #[.int .i64 ((P.I k).ea x)] 3)).cell? ⟨nb, 1, none⟩ = some (.int .u8 (y : Int)) ∧ (wm.alloc (.cells #[.int .i64 ((P.I k).ea x)] 3)).cell? ⟨nb, 1 + 1, none⟩ = some (.int .i64 ((P.I k).ea x)) ∧ (wm.alloc (.cells #[.int .i64 ((P.I k).ea x)] 3)).cell? ⟨ab, y, none⟩ = some (.int .i64 z) := ⟨keep0 hal hS.1, keep0 hal hS.2.1, keep0 hal hS.2.2⟩
                                    have HXE := Lib.hid (HXD.out.then0 hal)
                                    refine hK.out _ _ (fun _ => hS2) ?_
                                    clear hK K hS hal
                                    generalize wm.heap.size = sn at *
                                    generalize wm.alloc (.cells #[.int .i64 ((P.I k).ea x)] 3) = wo at *
                                    refine wpAnyR_one 14 rfl (by kernel_rfl) (fun K hK => ?_)
                                    go_simp
                                    go_at_call 55
                                    refine (sthere_any z (some ⟨sn, 0, none⟩) 1 1 (fun _ => (P.I k).ea x) wo hsl (by omega)).mono ?_
                                    rintro e wp ⟨rfl, hq⟩
                                    have hS3 : wp.cell? ⟨nb, 1, none⟩ = some (.int .u8 (y : Int)) ∧ wp.cell? ⟨nb, 1 + 1, none⟩ = some (.int .i64 ((P.I k).ea x)) ∧ wp.cell? ⟨ab, y, none⟩ = some (.int .i64 z) := ⟨keep0 hq hS2.1, keep0 hq hS2.2.1, keep0 hq hS2.2.2⟩
                                    have HXF2 := Lib.hid (HXE.out.then0 hq)
                                    refine hK.out _ _ (fun _ => hS3) ?_
                                    clear hK K hS2 hq hsl
                                    have HEX := Lib.hid (show expB P ((P.I k).ek x) ((P.I k).ea x) = belowB (fun _ => (P.I k).ea x) 1 z by
                                      unfold expB belowB
                                      rw [HK3.out, HY.out, HZ.out]
                                      simp [List.range_succ])
                                    cases hbb : belowB (fun _ => (P.I k).ea x) 1 z with
                                    | false =>
                                      have HBF := Lib.hid (typed_4 hlt (show instB P (P.I k) = false by unfold instB; rw [rall_false (n := (P.I k).en) hxl (HEX.out.trans hbb)]; simp))
                                      clear hbb
                                      (first | (refine tkR 15 (v := ?_) rfl hS3 ⟨by rfl, ?_⟩ ?_; rotate_left; intro w h; (try dsimp only at h); first | (go_simp; done) | (go_simp; with_reducible rfl)) | refine skR 15 rfl (fun _ => hS3) (by rfl) ?_); simp only [zq1, zq2, zq3, Act.put, zq4, zq5, zq6]
                                      (first | (refine tkR 16 (v := ?_) rfl hS3 ⟨by rfl, ?_⟩ ?_; rotate_left; intro w h; (try dsimp only at h); first | (go_simp; done) | (go_simp; with_reducible rfl)) | refine skR 16 rfl (fun _ => hS3) (by rfl) ?_); simp only [zq1, zq2, zq3, Act.put, zq4, zq5, zq6]
                                      refine wpAnyR_done (by kernel_rfl) ?_ _
                                      clear hS3
                                      go_wp2_with fail
                                      go_ret
                                      exact ⟨ret_bool (by rw [HBF.out]), (((HK.out.then0 HKA.out).then0 HKW.out).then0 HQ6.out.k).then0 HXF2.out⟩
                                    | true =>
                                      have HBT := Lib.hid (HEX.out.trans hbb)
                                      clear hbb
                                      (first | (refine tkR 15 (v := ?_) rfl hS3 ⟨by rfl, ?_⟩ ?_; rotate_left; intro w h; (try dsimp only at h); first | (go_simp; done) | (go_simp; with_reducible rfl)) | refine skR 15 rfl (fun _ => hS3) (by rfl) ?_); simp only [zq1, zq2, zq3, Act.put, zq4, zq5, zq6]
                                      (first | (refine tkR 16 (v := ?_) rfl hS3 ⟨by rfl, ?_⟩ ?_; rotate_left; intro w h; (try dsimp only at h); first | (go_simp; done) | (go_simp; with_reducible rfl)) | refine skR 16 rfl (fun _ => hS3) (by rfl) ?_); simp only [zq1, zq2, zq3, Act.put, zq4, zq5, zq6]
                                      refine wpAnyR_done (by kernel_rfl) ?_ _
                                      clear hS3
                                      go_wp2_with fail
                                      go_roundw
                                      case rel => exact ⟨x + 1, by omega, by go_num, fun j hj => by
                                        rcases Nat.lt_or_ge j x with h | h
                                        · exact HXK.out j h
                                        · obtain rfl : j = x := by omega
                                          exact HBT.out, HXF2.out⟩
                                      case measure => simp [intOf]; omega
                                · obtain rfl : x = (P.I k).en := by omega
                                  have HIT := Lib.hid (show instB P (P.I k) = true by unfold instB; rw [HB0.out, HB1.out, HB2.out, HB3.out, HB4.out, HB5.out, rall_true HXK.out]; rfl)
                                  have HKF := Lib.hid ((HKW.out.then0 HQ6.out.k).then0 HXW.out)
                                  go_wp2_with fail
                                  go_roundw
                                  case rel => exact ⟨k + 1, by omega, by go_num, fun j hj => by
                                    rcases Nat.lt_or_ge j k with h | h
                                    · exact HOK.out j h
                                    · obtain rfl : j = k := by omega
                                      exact HIT.out, HKF.out⟩
                                  case measure => simp [intOf]; omega
                · obtain rfl : k = P.ni := by omega
                  have i1 : ¬ ((P.ni : Int) < (P.ni : Int)) := by omega
                  go_wp2_with fail
                  go_ret
                  exact ⟨ret_bool (by rw [typed_t OK1.out OK2.out OK3.out HOK.out]), (HK.out.then0 HKA.out).then0 HKW.out⟩
end
end Go.Proofs.YtlnkdnmeikpckaaGreat
