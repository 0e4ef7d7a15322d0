/- The walk of the statement StoreLarge. No condition. -/
import Derived.Test.YtlnkdnmeikpckaaStK
namespace Go.Proofs.Ytlnkdnmeikpckaa
open Go.RowKit

theorem own_types {w : World} {b1 b2 e1 e2 s1 s2 n1 n2 : Nat} {Q1 Q2 : Value → Prop} {x y : Value} {F1 F2 : Nat → Value} (h : Own w b1 e1 s1 Q1 x n1 F1) (k : Own w b2 e2 s2 Q2 y n2 F2) (hne : e1 ≠ e2) : ∀ g, x.ownBlock = some g → y.ownBlock ≠ some g := by
  intro g hx hy
  rcases h with ⟨rfl, _⟩ | ⟨g1, c1, f1, rfl, _, _, _, r1, _⟩
  · simp [Value.ownBlock] at hx
  rcases k with ⟨rfl, _⟩ | ⟨g2, c2, f2, rfl, _, _, _, r2, _⟩
  · simp [Value.ownBlock] at hy
  obtain rfl : g1 = g := by simpa [Value.ownBlock] using hx
  obtain rfl : g2 = g1 := by simpa [Value.ownBlock] using hy
  obtain ⟨cs1, p1, _, _⟩ := r1
  obtain ⟨cs2, p2, _, _⟩ := r2
  rw [p1] at p2
  injection p2 with p2
  injection p2 with _ p2
  exact hne p2

/-- A store with tables and memories, as far as the walk knows it. -/
structure Large (w0 w : World) (sb n m : Nat) : Prop where
  is : ∃ tl ml F G, Blk w sb 95 (stCells (.slice none 0 0) tl ml (.slice none 0 0) (.slice none 0 0) (.slice none 0 0) (.slice none 0 0)) ∧ Own w sb 98 1 AnyV tl n F ∧ Own w sb 101 1 AnyV ml m G
  kept : Kept S0 w0 w
  tt : Blk w (sb + 1) 59 #[.int .u8 112, .int .u32 0, .int .u32 0, .bool false]
  vv : Blk w (sb + 1 + 1) 40 #[.int .u8 112, .int .u64 0, .int .u64 0]

/-- Another list of tables or of memories. -/
theorem Large.next {w0 w w2 : World} {sb n m n2 m2 : Nat} {tl2 ml2 cl : Value} {F2 G2 F3 : Nat → Value} {e : Nat} {j : Nat} (h : Large w0 w sb n m) (hcl : Own w sb e 1 AnyV cl j F3) (he : e = 98 ∨ e = 101)
    (h0 : w0.heap.size ≤ sb) (hk : Kept (ST sb cl) w w2) (hb2 : Blk w2 sb 95 (stCells (.slice none 0 0) tl2 ml2 (.slice none 0 0) (.slice none 0 0) (.slice none 0 0) (.slice none 0 0))) (ht2 : Own w2 sb 98 1 AnyV tl2 n2 F2) (hm2 : Own w2 sb 101 1 AnyV ml2 m2 G2) : Large w0 w2 sb n2 m2 where
  is := ⟨tl2, ml2, F2, G2, hb2, ht2, hm2⟩
  kept := h.kept.trans_ hk (fun i e => .inr (by
    rcases e with e | e
    · have e' : i = sb := e
      omega
    · have := (hcl.lt i e).1; omega))
  tt := hk.blk h.tt (fun e => by
    rcases e with e | e
    · have e' : sb + 1 = sb := e
      omega
    · exact hcl.ne_blk h.tt (by rcases he with rfl | rfl <;> decide) e)
  vv := hk.blk h.vv (fun e => by
    rcases e with e | e
    · have e' : sb + 1 + 1 = sb := e
      omega
    · exact hcl.ne_blk h.vv (by rcases he with rfl | rfl <;> decide) e)

theorem Own.other {w w2 : World} {sb n m e1 e2 : Nat} {tl ml : Value} {F G : Nat → Value} {cs : Array Value} (ht : Own w sb e1 1 AnyV tl n F) (hm : Own w sb e2 1 AnyV ml m G) (hne : e1 ≠ e2) (hb : Blk w sb 95 cs) (h2 : e2 ≠ 95) (hk : Kept (ST sb tl) w w2) : Own w2 sb e2 1 AnyV ml m G :=
  hm.kept hk (fun g hg e => by
    rcases e with e | e
    · exact hm.ne_blk hb h2 (by rw [hg]; exact congrArg some e)
    · exact own_types ht hm hne g e hg)

set_option maxRecDepth 100000 in
set_option maxHeartbeats 6400000 in
theorem large_any (m : Nat) (hm : m ≤ 255) (w : World) : Calls Try.prog 4 #[.int .u8 (m : Int)] w fun e w' => e = .returned (.bool true) ∧ Kept S0 w w' := by
  have u1 : IntKind.i64.wrap (m : Int) = (m : Int) := IntWalk.i64_in _ (by omega)
  have u2 : IntKind.i64.wrap (256 + (m : Int)) = 256 + (m : Int) := IntWalk.i64_in _ (by omega)
  go_enter Try.func4, Try.ntmps4
  go_wp2_with fail
  refine (news_any w).mono ?_
  rintro e w1 ⟨rfl, hb, hk1, hsz⟩
  generalize hsb : w.heap.size = sb at *
  have HB1 := Lib.hid hb
  have HK1 := Lib.hid hk1
  clear hb hk1
  go_wp2_with fail
  have HL : Large w ((w1.alloc (.cells #[.int .u8 112, .int .u32 0, .int .u32 0, .bool false] 59)).alloc (.cells #[.int .u8 112, .int .u64 0, .int .u64 0] 40)) sb 0 0 := by
    have hka : Kept S0 w1 ((w1.alloc (.cells #[.int .u8 112, .int .u32 0, .int .u32 0, .bool false] 59)).alloc (.cells #[.int .u8 112, .int .u64 0, .int .u64 0] 40)) := ((Kept.refl S0 w1).alloc _).alloc _
    have h1 := (Blk.new w1 59 #[.int .u8 112, .int .u32 0, .int .u32 0, .bool false]).alloc (.cells #[.int .u8 112, .int .u64 0, .int .u64 0] 40)
    have h2 := Blk.new1 w1 (.cells #[.int .u8 112, .int .u32 0, .int .u32 0, .bool false] 59) 40 #[.int .u8 112, .int .u64 0, .int .u64 0]
    rw [hsz] at h1 h2
    exact ⟨⟨_, _, fun _ => undef, fun _ => undef, hka.blk HB1.out (fun x => x), Own.nil _ _ _ _ _ _, Own.nil _ _ _ _ _ _⟩, HK1.out.then0 hka, h1, h2⟩
  clear HB1 HK1
  generalize ((w1.alloc (.cells #[.int .u8 112, .int .u32 0, .int .u32 0, .bool false] 59)).alloc (.cells #[.int .u8 112, .int .u64 0, .int .u64 0] 40)) = wa at *
  clear hsz
  go_loopw [6] (fun i wr => ∃ k n : Nat, k ≤ 256 + m ∧ i = .int .i64 (k : Int) ∧ n = min k 256 ∧ Large w wr sb n n) (fun i _ => 256 + m - (intOf i).toNat)
  case atStart => exact ⟨0, 0, by omega, rfl, rfl, HL⟩
  case round =>
    obtain ⟨k, n, hk, rfl, hn0, hl⟩ := hrel
    have HN := Lib.hid hn0
    clear HL hn0
    by_cases hlt : k < 256 + m
    · have b1 : decide ((k : Int) < 256 + (m : Int)) = true := decide_eq_true (by omega)
      have v0 := hl.tt.cell 0
      have v1 := hl.tt.cell 1
      have v2 := hl.tt.cell 2
      have v3 := hl.tt.cell 3
      have x0 := hl.vv.cell 0
      have x1 := hl.vv.cell 1
      have x2 := hl.vv.cell 2
      have HL := Lib.hid hl
      clear hl
      go_wp2_with fail
      obtain ⟨tl, ml, F, G, hb, ht, hm2⟩ := HL.out.is
      have hsl := HL.out.tt.lt
      by_cases h256 : k < 256
      · obtain rfl : n = k := by have := HN.out; omega
        clear HN
        refine (addtable_ok hb ht h256 (by omega)).mono ?_
        rintro e w2 ⟨rfl, tl2, F2, hb2, ht2, hk2, hl2⟩
        have hm3 := ht.other hm2 (by decide) hb (by decide) hk2
        have hL2 := HL.out.next ht (.inl rfl) (by omega) hk2 hb2 ht2 hm3
        have HL2 := Lib.hid hL2
        have hB2 := Lib.hid hb2
        have hT2 := Lib.hid ht2
        have hM3 := Lib.hid hm3
        clear hb ht hm2 hk2 hl2 hb2 ht2 hm3 hL2 v0 v1 v2 v3 x0 x1 x2
        go_wp2_with fail
        have hsl2 := HL2.out.tt.lt
        refine (addmem_ok hB2.out hM3.out h256 (by omega)).mono ?_
        rintro e w3 ⟨rfl, ml2, G2, hb3, hm4, hk3, hl3⟩
        have ht4 := hM3.out.other hT2.out (by decide) hB2.out (by decide) hk3
        have HL3 := Lib.hid (HL2.out.next hM3.out (.inr rfl) (by omega) hk3 hb3 ht4 hm4)
        have q1 : decide ((n : Int) < 256) = true := decide_eq_true (by omega)
        have q2 : decide ((256 : Int) ≤ (n : Int)) = false := decide_eq_false (by omega)
        have q3 : ((n : Int) != (n : Int)) = false := by simp
        have hun : IntKind.i64.wrap ((n : Int) + 1) = ((n + 1 : Nat) : Int) := by rw [IntWalk.i64_in _ (by omega)]; omega
        clear hb3 hm4 hk3 hl3 ht4 hsl2
        go_wp2_with fail
        go_roundw
        case rel => exact ⟨n + 1, n + 1, by omega, by go_num, by omega, HL3.out⟩
        case measure => simp [intOf]; omega
      · obtain rfl : n = 256 := by have := HN.out; omega
        clear HN
        refine (addtable_full hb ht (by omega)).mono ?_
        rintro e w2 ⟨rfl, hk2⟩
        have HB2 := Lib.hid (hk2.blk hb (fun x => x))
        have HM2 := Lib.hid (hm2.kept hk2 (fun _ _ x => x))
        have HT2 := Lib.hid (ht.kept hk2 (fun _ _ x => x))
        have HK2 := Lib.hid hk2
        clear hb ht hm2 hk2 v0 v1 v2 v3 x0 x1 x2
        go_wp2_with fail
        refine (addmem_full HB2.out HM2.out (by omega)).mono ?_
        rintro e w3 ⟨rfl, hk3⟩
        have hk23 := HK2.out.then0 hk3
        have HL3 := Lib.hid (show Large w w3 sb 256 256 from ⟨⟨tl, ml, F, G, hk3.blk HB2.out (fun x => x), HT2.out.kept hk3 (fun _ _ x => x), HM2.out.kept hk3 (fun _ _ x => x)⟩, HL.out.kept.then0 hk23, hk23.blk HL.out.tt (fun x => x), hk23.blk HL.out.vv (fun x => x)⟩)
        have q1 : decide ((k : Int) < 256) = false := decide_eq_false (by omega)
        have q2 : decide ((256 : Int) ≤ (k : Int)) = true := decide_eq_true (by omega)
        clear hk3 hk23
        go_wp2_with fail
        go_roundw
        case rel => exact ⟨k + 1, 256, by omega, by go_num, by omega, HL3.out⟩
        case measure => simp [intOf]; omega
    · have b1 : decide ((k : Int) < 256 + (m : Int)) = false := decide_eq_false (by omega)
      have HK := Lib.hid hl.kept
      clear hl
      go_wp2_with fail
      refine (lives_any _).mono ?_
      rintro e w2 ⟨rfl, hk2⟩
      have HK2 := Lib.hid (HK.out.then0 hk2)
      clear hk2
      go_wp2_with fail
      go_ret
      exact ⟨rfl, HK2.out⟩
end Go.Proofs.Ytlnkdnmeikpckaa
