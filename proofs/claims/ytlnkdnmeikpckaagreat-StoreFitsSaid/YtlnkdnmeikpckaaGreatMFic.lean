/- What the proofs lean on, part 3 of Fi. No condition. -/
import Derived.Test.YtlnkdnmeikpckaaGreatMFia
import Derived.Test.YtlnkdnmeikpckaaGreatMSta
import Derived.Test.YtlnkdnmeikpckaaGreatMStb
import Derived.Test.YtlnkdnmeikpckaaGreatMStc
import Derived.Test.YtlnkdnmeikpckaaGreatMStd
import Derived.Test.YtlnkdnmeikpckaaGreatMStf
import Derived.Test.YtlnkdnmeikpckaaGreatMSth
namespace Go.Proofs.YtlnkdnmeikpckaaGreat
open Go.RowKit
set_option maxRecDepth 100000
set_option maxHeartbeats 1600000 in
theorem types_any (A B : Option Addr) (n m c d : Nat) (v u : Nat → UInt8) (w : World) (hA : Sl w A n (byteV v)) (hB : Sl w B m (byteV u)) (hn : n ≤ 9223372036854775806) (hm : m ≤ 9223372036854775806) :
    Calls Tryz.prog 42 #[.slice A n c, .slice B m d] w fun e w' => e = .returned (.bool (eqT n m v u)) ∧ Kept S0 w w' := by
  by_cases hnm : n = m
  · subst hnm
    have e0 : (((n : Nat) : Int) != (n : Int)) = false := by simp
    have HA := Lib.hid hA
    have HB := Lib.hid hB
    clear hA hB
    go_enter Tryz.func42, Tryz.ntmps42
    go_wp2_with fail
    go_loopw [5] (fun i wr => ∃ k : Nat, k ≤ n ∧ i = .int .i64 (k : Int) ∧ (∀ j, j < k → v j = u j) ∧ ∃ q, wr = w.drewN q) (fun i _ => n - (intOf i).toNat)
    case atStart => exact ⟨0, by omega, rfl, fun j hj => absurd hj (by omega), 0, rfl⟩
    case round =>
      obtain ⟨k, hk, rfl, heq, q, rfl⟩ := hrel
      by_cases hlt : k < n
      · obtain ⟨b1, o1, hAe, h1⟩ := HA.out (by omega)
        obtain ⟨b2, o2, hBe, h2⟩ := HB.out (by omega)
        subst hAe hBe
        have d0 : w.cell? ⟨b1, o1 + k, none⟩ = some (.int .u8 ((v k).toNat : Int)) := h1 k hlt
        have f0 : w.cell? ⟨b2, o2 + k, none⟩ = some (.int .u8 ((u k).toNat : Int)) := h2 k hlt
        have HE := Lib.hid heq
        clear h1 h2 heq
        by_cases hvu : v k = u k
        · have HV := Lib.hid hvu
          rw [hvu] at d0
          have e1 : (((u k).toNat : Int) != ((u k).toNat : Int)) = false := by simp
          clear hvu
          go_wp2_with fail
          go_quiet (fail)
          go_wp2_with fail
          go_roundw
          case rel => exact ⟨k + 1, by omega, by go_num, fun j hj => by
            rcases Nat.lt_or_ge j k with h | h
            · exact HE.out j h
            · obtain rfl : j = k := by omega
              exact HV.out, _, rfl⟩
          case measure => simp [intOf]; omega
        · have hne : ((v k).toNat : Int) ≠ ((u k).toNat : Int) := fun e => hvu (UInt8.toNat_inj.1 (by omega))
          have e1 : (((v k).toNat : Int) != ((u k).toNat : Int)) = true := bne_iff_ne.2 hne
          have HB := Lib.hid (eqT_at (m := n) hlt hvu)
          clear hvu hne
          go_wp2_with fail
          go_quiet (fail)
          go_wp2_with fail
          go_ret
          exact ⟨ret_bool (by rw [HB.out]), ((Kept.refl S0 w).drewN _).drewN _⟩
      · obtain rfl : k = n := by omega
        have HB2 := Lib.hid (eqT_true heq)
        clear heq
        go_wp2_with fail
        go_ret
        exact ⟨ret_bool (by rw [HB2.out]), (Kept.refl S0 w).drewN q⟩
  · have hne : ((n : Nat) : Int) ≠ (m : Int) := by omega
    have e1 : (((n : Nat) : Int) != (m : Int)) = true := bne_iff_ne.2 hne
    have HB := Lib.hid (eqT_ne (v := v) (u := u) hnm)
    clear hnm hne hA hB
    go_enter Tryz.func42, Tryz.ntmps42
    go_wp2_with fail
    go_ret
    exact ⟨ret_bool (by rw [HB.out]), Kept.refl _ _⟩
theorem func_any (A B C D : Option Addr) (n1 n2 n3 n4 c1 c2 c3 c4 : Nat) (v1 v2 v3 v4 : Nat → UInt8) (w : World) (h1 : TSl w A n1 c1 v1) (h2 : TSl w B n2 c2 v2) (h3 : TSl w C n3 c3 v3) (h4 : TSl w D n4 c4 v4) :
    Calls Tryz.prog 15 #[.agg #[.slice A n1 c1, .slice B n2 c2], .agg #[.slice C n3 c3, .slice D n4 c4]] w fun e w' => e = .returned (.bool (eqT n1 n3 v1 v3 && eqT n2 n4 v2 v4)) ∧ Kept S0 w w' := by
  have hka : Kept S0 w ((w.alloc (.cells #[.slice A n1 c1, .slice B n2 c2] 38)).alloc (.cells #[.slice C n3 c3, .slice D n4 c4] 38)) := ((Kept.refl S0 w).alloc _).alloc _
  have hB1 := (Blk.new w 38 #[.slice A n1 c1, .slice B n2 c2]).alloc (.cells #[.slice C n3 c3, .slice D n4 c4] 38)
  have hB2 := Blk.new1 w (.cells #[.slice A n1 c1, .slice B n2 c2] 38) 38 #[.slice C n3 c3, .slice D n4 c4]
  have a0 := hB1.cell 0
  have b0 := hB2.cell 0
  have HB1 := Lib.hid hB1
  have HB2 := Lib.hid hB2
  have H1 := Lib.hid (h1.kept hka)
  have H2 := Lib.hid (h2.kept hka)
  have H3 := Lib.hid (h3.kept hka)
  have H4 := Lib.hid (h4.kept hka)
  have HK := Lib.hid hka
  clear hB1 hB2 h1 h2 h3 h4 hka
  go_enter Tryz.func15, Tryz.ntmps15
  go_wp2_with fail
  refine (types_any A C n1 n3 c1 c3 v1 v3 _ H1.out.sl H3.out.sl (by have := H1.out.sz; omega) (by have := H3.out.sz; omega)).mono ?_
  rintro e w2 ⟨rfl, hk2⟩
  have HK2 := Lib.hid (HK.out.then0 hk2)
  cases he : eqT n1 n3 v1 v3 with
  | false =>
    have HE := Lib.hid he
    clear hk2 a0 b0 he
    go_wp2_with fail
    go_ret
    exact ⟨ret_bool (by rw [HE.out]; rfl), HK2.out⟩
  | true =>
    have a1 := (hk2.blk HB1.out (fun x => x)).cell 1
    have b1 := (hk2.blk HB2.out (fun x => x)).cell 1
    have HS2 := Lib.hid (H2.out.kept hk2)
    have HS4 := Lib.hid (H4.out.kept hk2)
    have HE := Lib.hid he
    clear hk2 a0 b0 he
    go_wp2_with fail
    refine (types_any B D n2 n4 c2 c4 v2 v4 _ HS2.out.sl HS4.out.sl (by have := HS2.out.sz; omega) (by have := HS4.out.sz; omega)).mono ?_
    rintro e w3 ⟨rfl, hk3⟩
    have HK3 := Lib.hid (HK2.out.then0 hk3)
    clear hk3 a1 b1
    go_wp2_with fail
    go_ret
    exact ⟨ret_bool (by rw [HE.out]; rfl), HK3.out⟩
section
variable {w : World} {rb B : Nat} {n0 n1 n2 n3 n4 n5 n6 c0 c1 c2 c3 c4 c5 c6 : Nat} {A0 A1 A2 A3 A4 A5 A6 : Option Addr} {F : Nat → Value}
set_option maxRecDepth 100000 in
set_option maxHeartbeats 6400000 in
theorem rfits_func_out (a : Int) (_hn : n0 ≤ 65536) (ha : a < 0 ∨ (n0 : Int) ≤ a) (s1 s2 : ByteArray) (k fi wl wn wx : Int) (wb : Bool) (mn mx : Int) (mb : Bool) (gt : Int) (gm : Bool) (P R : Option Addr) (mp mr cp cr : Nat) (hb : Blk w rb 89 (rCells (.slice A0 n0 c0) (.slice A1 n1 c1) (.slice A2 n2 c2) (.slice A3 n3 c3) (.slice A4 n4 c4) (.slice A5 n5 c5) (.slice A6 n6 c6))) :
    Calls Tryz.prog 11 #[.pointer (some ⟨rb, 0, none⟩), .agg #[.int .u8 0, .int .i64 a], .agg #[.string s1, .string s2, .int .u8 k, .int .u32 fi, .int .u8 wl, .int .u32 wn, .int .u32 wx, .bool wb, .int .u32 mn, .int .u32 mx, .bool mb, .int .u8 gt, .bool gm], .agg #[.slice P mp cp, .slice R mr cr]] w fun e w' => e = .returned (.int .i64 11) ∧ Kept S0 w w' := by
  have hx := fbox_new w 0 a #[.string s1, .string s2, .int .u8 k, .int .u32 fi, .int .u8 wl, .int .u32 wn, .int .u32 wx, .bool wb, .int .u32 mn, .int .u32 mx, .bool mb, .int .u8 gt, .bool gm] #[.slice P mp cp, .slice R mr cr]
  have hka : Kept S0 w (((w.alloc (.cells #[.int .u8 0, .int .i64 a] 25)).alloc (.cells #[.string s1, .string s2, .int .u8 k, .int .u32 fi, .int .u8 wl, .int .u32 wn, .int .u32 wx, .bool wb, .int .u32 mn, .int .u32 mx, .bool mb, .int .u8 gt, .bool gm] 35)).alloc (.cells #[.slice P mp cp, .slice R mr cr] 38)) := (((Kept.refl S0 w).alloc _).alloc _).alloc _
  have hba := hka.blk hb (fun x => x)
  have HT := Lib.hid (show inA a (n0 : Int) = false by unfold inA; exact decide_eq_false (by omega))
  have HBA := Lib.hid hba
  have HX := Lib.hid hx
  have HK := Lib.hid hka
  clear hb hba hx hka ha
  go_enter Tryz.func11, Tryz.ntmps11
  go_wp2_with fail
  generalize (((w.alloc (.cells #[.int .u8 0, .int .i64 a] 25)).alloc (.cells #[.string s1, .string s2, .int .u8 k, .int .u32 fi, .int .u8 wl, .int .u32 wn, .int .u32 wx, .bool wb, .int .u32 mn, .int .u32 mx, .bool mb, .int .u8 gt, .bool gm] 35)).alloc (.cells #[.slice P mp cp, .slice R mr cr] 38)) = wa at *
  generalize hbx : w.heap.size = bx at *
  refine (rsizes_any HBA.out).mono ?_
  rintro e w2 ⟨rfl, hk2⟩
  have hk3 := hk2.alloc (.cells #[.int .i64 (n0 : Int), .int .i64 (n1 : Int), .int .i64 (n2 : Int), .int .i64 (n3 : Int), .int .i64 (n4 : Int), .int .i64 (n5 : Int), .int .i64 (n6 : Int)] 43)
  have HX3 := Lib.hid (HX.out.kept hk3)
  have HB3 := Lib.hid (hk3.blk HBA.out (fun x => x))
  have HK3 := Lib.hid (HK.out.then0 hk3)
  have HN3 := Lib.hid (Blk.new w2 43 #[.int .i64 (n0 : Int), .int .i64 (n1 : Int), .int .i64 (n2 : Int), .int .i64 (n3 : Int), .int .i64 (n4 : Int), .int .i64 (n5 : Int), .int .i64 (n6 : Int)])
  clear hk2 hk3 HX HBA HK
  go_wp2_with fail
  generalize hab : w2.heap.size = ab at *
  generalize w2.alloc (.cells #[.int .i64 (n0 : Int), .int .i64 (n1 : Int), .int .i64 (n2 : Int), .int .i64 (n3 : Int), .int .i64 (n4 : Int), .int .i64 (n5 : Int), .int .i64 (n6 : Int)] 43) = w3 at *
  have hd := (Kept.refl S0 w3).drew
  have HX4 := Lib.hid (HX3.out.kept hd)
  have HB4 := Lib.hid (hd.blk HB3.out (fun x => x))
  have HK4 := Lib.hid HK3.out.drew
  have HN4 := Lib.hid (hd.blk HN3.out (fun x => x))
  clear hd HX3 HB3 HK3 HN3
  have hS : w3.drew.cell? ⟨bx, 0, none⟩ = some (.int .u8 0) ∧ w3.drew.cell? ⟨bx, 1, none⟩ = some (.int .i64 a) ∧ w3.drew.cell? ⟨ab, 0, none⟩ = some (.int .i64 (n0 : Int)) := ⟨HX4.out.e.cell 0, HX4.out.e.cell 1, HN4.out.cell 0⟩
  refine wp_region_R (fun w' => w'.cell? ⟨bx, 0, none⟩ = some (.int .u8 0) ∧ w'.cell? ⟨bx, 1, none⟩ = some (.int .i64 a) ∧ w'.cell? ⟨ab, 0, none⟩ = some (.int .i64 (n0 : Int))) [] (by kernel_rfl) ?_
  generalize w3.drew = w4 at *
  (first | (refine tkR 0 (v := ?_) rfl hS ⟨by rfl, ?_⟩ ?_; rotate_left; intro w h; (try dsimp only at h); first | (go_simp; done) | (go_simp; with_reducible rfl)) | refine skR 0 rfl (fun _ => hS) (by rfl) ?_); simp only [zq1, zq2, Act.put, zq4, zq5, zq6]
  (first | (refine tkR 1 (v := ?_) rfl hS ⟨by rfl, ?_⟩ ?_; rotate_left; intro w h; (try dsimp only at h); first | (go_simp; done) | (go_simp; with_reducible rfl)) | refine skR 1 rfl (fun _ => hS) (by rfl) ?_); simp only [zq1, zq2, zq3, Act.put, zq4, zq5, zq6]
  (first | (refine tkR 2 (v := ?_) rfl hS ⟨by rfl, ?_⟩ ?_; rotate_left; intro w h; (try dsimp only at h); first | (go_simp; done) | (go_simp; with_reducible rfl)) | refine skR 2 rfl (fun _ => hS) (by rfl) ?_); simp only [zq1, zq2, zq3, Act.put, zq4, zq5, zq6]
  (first | (refine tkR 3 (v := ?_) rfl hS ⟨by rfl, ?_⟩ ?_; rotate_left; intro w h; (try dsimp only at h); first | (go_simp; done) | (go_simp; with_reducible rfl)) | refine skR 3 rfl (fun _ => hS) (by rfl) ?_); simp only [zq1, zq2, zq3, Act.put, zq4, zq5, zq6]
  (first | (refine tkR 4 (v := ?_) rfl hS ⟨by rfl, ?_⟩ ?_; rotate_left; intro w h; (try dsimp only at h); first | (go_simp; done) | (go_simp; with_reducible rfl)) | refine skR 4 rfl (fun _ => hS) (by rfl) ?_); simp only [zq1, zq2, zq3, Act.put, zq4, zq5, zq6]
  (first | (refine tkR 5 (v := ?_) rfl hS ⟨by rfl, ?_⟩ ?_; rotate_left; intro w h; (try dsimp only at h); first | (go_simp; done) | (go_simp; with_reducible rfl)) | refine skR 5 rfl (fun _ => hS) (by rfl) ?_); simp only [zq1, zq2, zq3, Act.put, zq4, zq5, zq6]
  (first | (refine tkR 6 (v := ?_) rfl hS ⟨by rfl, ?_⟩ ?_; rotate_left; intro w h; (try dsimp only at h); first | (go_simp; done) | (go_simp; with_reducible rfl)) | refine skR 6 rfl (fun _ => hS) (by rfl) ?_); simp only [zq1, zq2, zq3, Act.put, zq4, zq5, zq6]
  (first | (refine tkR 7 (v := ?_) rfl hS ⟨by rfl, ?_⟩ ?_; rotate_left; intro w h; (try dsimp only at h); first | (go_simp; done) | (go_simp; with_reducible rfl)) | refine skR 7 rfl (fun _ => hS) (by rfl) ?_); simp only [zq1, zq2, zq3, Act.put, zq4, zq5, zq6]
  (first | (refine tkR 8 (v := ?_) rfl hS ⟨by rfl, ?_⟩ ?_; rotate_left; intro w h; (try dsimp only at h); first | (go_simp; done) | (go_simp; with_reducible rfl)) | refine skR 8 rfl (fun _ => hS) (by rfl) ?_); simp only [zq1, zq2, zq3, Act.put, zq4, zq5, zq6]
  (first | (refine tkR 9 (v := ?_) rfl hS ⟨by rfl, ?_⟩ ?_; rotate_left; intro w h; (try dsimp only at h); first | (go_simp; done) | (go_simp; with_reducible rfl)) | refine skR 9 rfl (fun _ => hS) (by rfl) ?_); simp only [zq1, zq2, zq3, Act.put, zq4, zq5, zq6]
  refine wpAnyR_one 10 rfl (by kernel_rfl) (fun K hK => ?_)
  go_simp
  go_at_call 27
  refine (there_any a n0 _).mono ?_
  rintro e w5 ⟨rfl, rfl⟩
  rw [HT.out]
  refine hK.out _ _ (fun _ => hS) ?_
  clear hK K
  (first | (refine tkR 11 (v := ?_) rfl hS ⟨by rfl, ?_⟩ ?_; rotate_left; intro w h; (try dsimp only at h); first | (go_simp; done) | (go_simp; with_reducible rfl)) | refine skR 11 rfl (fun _ => hS) (by rfl) ?_); simp only [zq1, zq2, zq3, Act.put, zq4, zq5, zq6]
  (first | (refine tkR 12 (v := ?_) rfl hS ⟨by rfl, ?_⟩ ?_; rotate_left; intro w h; (try dsimp only at h); first | (go_simp; done) | (go_simp; with_reducible rfl)) | refine skR 12 rfl (fun _ => hS) (by rfl) ?_); simp only [zq1, zq2, zq3, Act.put, zq4, zq5, zq6]
  refine wpAnyR_done (by kernel_rfl) ?_ _
  clear hS
  go_wp2_with fail
  go_ret
  exact ⟨rfl, HK4.out⟩
set_option maxRecDepth 100000 in
set_option maxHeartbeats 6400000 in
theorem rfits_table_out (a : Int) (_hn : n1 ≤ 65536) (ha : a < 0 ∨ (n1 : Int) ≤ a) (s1 s2 : ByteArray) (k fi wl wn wx : Int) (wb : Bool) (mn mx : Int) (mb : Bool) (gt : Int) (gm : Bool) (P R : Option Addr) (mp mr cp cr : Nat) (hb : Blk w rb 89 (rCells (.slice A0 n0 c0) (.slice A1 n1 c1) (.slice A2 n2 c2) (.slice A3 n3 c3) (.slice A4 n4 c4) (.slice A5 n5 c5) (.slice A6 n6 c6))) :
    Calls Tryz.prog 11 #[.pointer (some ⟨rb, 0, none⟩), .agg #[.int .u8 1, .int .i64 a], .agg #[.string s1, .string s2, .int .u8 k, .int .u32 fi, .int .u8 wl, .int .u32 wn, .int .u32 wx, .bool wb, .int .u32 mn, .int .u32 mx, .bool mb, .int .u8 gt, .bool gm], .agg #[.slice P mp cp, .slice R mr cr]] w fun e w' => e = .returned (.int .i64 11) ∧ Kept S0 w w' := by
  have hx := fbox_new w 1 a #[.string s1, .string s2, .int .u8 k, .int .u32 fi, .int .u8 wl, .int .u32 wn, .int .u32 wx, .bool wb, .int .u32 mn, .int .u32 mx, .bool mb, .int .u8 gt, .bool gm] #[.slice P mp cp, .slice R mr cr]
  have hka : Kept S0 w (((w.alloc (.cells #[.int .u8 1, .int .i64 a] 25)).alloc (.cells #[.string s1, .string s2, .int .u8 k, .int .u32 fi, .int .u8 wl, .int .u32 wn, .int .u32 wx, .bool wb, .int .u32 mn, .int .u32 mx, .bool mb, .int .u8 gt, .bool gm] 35)).alloc (.cells #[.slice P mp cp, .slice R mr cr] 38)) := (((Kept.refl S0 w).alloc _).alloc _).alloc _
  have hba := hka.blk hb (fun x => x)
  have HT := Lib.hid (show inA a (n1 : Int) = false by unfold inA; exact decide_eq_false (by omega))
  have HBA := Lib.hid hba
  have HX := Lib.hid hx
  have HK := Lib.hid hka
  clear hb hba hx hka ha
  go_enter Tryz.func11, Tryz.ntmps11
  go_wp2_with fail
  generalize (((w.alloc (.cells #[.int .u8 1, .int .i64 a] 25)).alloc (.cells #[.string s1, .string s2, .int .u8 k, .int .u32 fi, .int .u8 wl, .int .u32 wn, .int .u32 wx, .bool wb, .int .u32 mn, .int .u32 mx, .bool mb, .int .u8 gt, .bool gm] 35)).alloc (.cells #[.slice P mp cp, .slice R mr cr] 38)) = wa at *
  generalize hbx : w.heap.size = bx at *
  refine (rsizes_any HBA.out).mono ?_
  rintro e w2 ⟨rfl, hk2⟩
  have hk3 := hk2.alloc (.cells #[.int .i64 (n0 : Int), .int .i64 (n1 : Int), .int .i64 (n2 : Int), .int .i64 (n3 : Int), .int .i64 (n4 : Int), .int .i64 (n5 : Int), .int .i64 (n6 : Int)] 43)
  have HX3 := Lib.hid (HX.out.kept hk3)
  have HB3 := Lib.hid (hk3.blk HBA.out (fun x => x))
  have HK3 := Lib.hid (HK.out.then0 hk3)
  have HN3 := Lib.hid (Blk.new w2 43 #[.int .i64 (n0 : Int), .int .i64 (n1 : Int), .int .i64 (n2 : Int), .int .i64 (n3 : Int), .int .i64 (n4 : Int), .int .i64 (n5 : Int), .int .i64 (n6 : Int)])
  clear hk2 hk3 HX HBA HK
  go_wp2_with fail
  generalize hab : w2.heap.size = ab at *
  generalize w2.alloc (.cells #[.int .i64 (n0 : Int), .int .i64 (n1 : Int), .int .i64 (n2 : Int), .int .i64 (n3 : Int), .int .i64 (n4 : Int), .int .i64 (n5 : Int), .int .i64 (n6 : Int)] 43) = w3 at *
  have hd := (Kept.refl S0 w3).drew
  have HX4 := Lib.hid (HX3.out.kept hd)
  have HB4 := Lib.hid (hd.blk HB3.out (fun x => x))
  have HK4 := Lib.hid HK3.out.drew
  have HN4 := Lib.hid (hd.blk HN3.out (fun x => x))
  clear hd HX3 HB3 HK3 HN3
  have hS : w3.drew.cell? ⟨bx, 0, none⟩ = some (.int .u8 1) ∧ w3.drew.cell? ⟨bx, 1, none⟩ = some (.int .i64 a) ∧ w3.drew.cell? ⟨ab, 1, none⟩ = some (.int .i64 (n1 : Int)) := ⟨HX4.out.e.cell 0, HX4.out.e.cell 1, HN4.out.cell 1⟩
  refine wp_region_R (fun w' => w'.cell? ⟨bx, 0, none⟩ = some (.int .u8 1) ∧ w'.cell? ⟨bx, 1, none⟩ = some (.int .i64 a) ∧ w'.cell? ⟨ab, 1, none⟩ = some (.int .i64 (n1 : Int))) [] (by kernel_rfl) ?_
  generalize w3.drew = w4 at *
  (first | (refine tkR 0 (v := ?_) rfl hS ⟨by rfl, ?_⟩ ?_; rotate_left; intro w h; (try dsimp only at h); first | (go_simp; done) | (go_simp; with_reducible rfl)) | refine skR 0 rfl (fun _ => hS) (by rfl) ?_); simp only [zq1, zq2, Act.put, zq4, zq5, zq6]
  (first | (refine tkR 1 (v := ?_) rfl hS ⟨by rfl, ?_⟩ ?_; rotate_left; intro w h; (try dsimp only at h); first | (go_simp; done) | (go_simp; with_reducible rfl)) | refine skR 1 rfl (fun _ => hS) (by rfl) ?_); simp only [zq1, zq2, zq3, Act.put, zq4, zq5, zq6]
  (first | (refine tkR 2 (v := ?_) rfl hS ⟨by rfl, ?_⟩ ?_; rotate_left; intro w h; (try dsimp only at h); first | (go_simp; done) | (go_simp; with_reducible rfl)) | refine skR 2 rfl (fun _ => hS) (by rfl) ?_); simp only [zq1, zq2, zq3, Act.put, zq4, zq5, zq6]
  (first | (refine tkR 3 (v := ?_) rfl hS ⟨by rfl, ?_⟩ ?_; rotate_left; intro w h; (try dsimp only at h); first | (go_simp; done) | (go_simp; with_reducible rfl)) | refine skR 3 rfl (fun _ => hS) (by rfl) ?_); simp only [zq1, zq2, zq3, Act.put, zq4, zq5, zq6]
  (first | (refine tkR 4 (v := ?_) rfl hS ⟨by rfl, ?_⟩ ?_; rotate_left; intro w h; (try dsimp only at h); first | (go_simp; done) | (go_simp; with_reducible rfl)) | refine skR 4 rfl (fun _ => hS) (by rfl) ?_); simp only [zq1, zq2, zq3, Act.put, zq4, zq5, zq6]
  (first | (refine tkR 5 (v := ?_) rfl hS ⟨by rfl, ?_⟩ ?_; rotate_left; intro w h; (try dsimp only at h); first | (go_simp; done) | (go_simp; with_reducible rfl)) | refine skR 5 rfl (fun _ => hS) (by rfl) ?_); simp only [zq1, zq2, zq3, Act.put, zq4, zq5, zq6]
  (first | (refine tkR 6 (v := ?_) rfl hS ⟨by rfl, ?_⟩ ?_; rotate_left; intro w h; (try dsimp only at h); first | (go_simp; done) | (go_simp; with_reducible rfl)) | refine skR 6 rfl (fun _ => hS) (by rfl) ?_); simp only [zq1, zq2, zq3, Act.put, zq4, zq5, zq6]
  (first | (refine tkR 7 (v := ?_) rfl hS ⟨by rfl, ?_⟩ ?_; rotate_left; intro w h; (try dsimp only at h); first | (go_simp; done) | (go_simp; with_reducible rfl)) | refine skR 7 rfl (fun _ => hS) (by rfl) ?_); simp only [zq1, zq2, zq3, Act.put, zq4, zq5, zq6]
  (first | (refine tkR 8 (v := ?_) rfl hS ⟨by rfl, ?_⟩ ?_; rotate_left; intro w h; (try dsimp only at h); first | (go_simp; done) | (go_simp; with_reducible rfl)) | refine skR 8 rfl (fun _ => hS) (by rfl) ?_); simp only [zq1, zq2, zq3, Act.put, zq4, zq5, zq6]
  (first | (refine tkR 9 (v := ?_) rfl hS ⟨by rfl, ?_⟩ ?_; rotate_left; intro w h; (try dsimp only at h); first | (go_simp; done) | (go_simp; with_reducible rfl)) | refine skR 9 rfl (fun _ => hS) (by rfl) ?_); simp only [zq1, zq2, zq3, Act.put, zq4, zq5, zq6]
  refine wpAnyR_one 10 rfl (by kernel_rfl) (fun K hK => ?_)
  go_simp
  go_at_call 27
  refine (there_any a n1 _).mono ?_
  rintro e w5 ⟨rfl, rfl⟩
  rw [HT.out]
  refine hK.out _ _ (fun _ => hS) ?_
  clear hK K
  (first | (refine tkR 11 (v := ?_) rfl hS ⟨by rfl, ?_⟩ ?_; rotate_left; intro w h; (try dsimp only at h); first | (go_simp; done) | (go_simp; with_reducible rfl)) | refine skR 11 rfl (fun _ => hS) (by rfl) ?_); simp only [zq1, zq2, zq3, Act.put, zq4, zq5, zq6]
  (first | (refine tkR 12 (v := ?_) rfl hS ⟨by rfl, ?_⟩ ?_; rotate_left; intro w h; (try dsimp only at h); first | (go_simp; done) | (go_simp; with_reducible rfl)) | refine skR 12 rfl (fun _ => hS) (by rfl) ?_); simp only [zq1, zq2, zq3, Act.put, zq4, zq5, zq6]
  refine wpAnyR_done (by kernel_rfl) ?_ _
  clear hS
  go_wp2_with fail
  go_ret
  exact ⟨rfl, HK4.out⟩
set_option maxRecDepth 100000 in
set_option maxHeartbeats 6400000 in
theorem rfits_mem_out (a : Int) (_hn : n2 ≤ 65536) (ha : a < 0 ∨ (n2 : Int) ≤ a) (s1 s2 : ByteArray) (k fi wl wn wx : Int) (wb : Bool) (mn mx : Int) (mb : Bool) (gt : Int) (gm : Bool) (P R : Option Addr) (mp mr cp cr : Nat) (hb : Blk w rb 89 (rCells (.slice A0 n0 c0) (.slice A1 n1 c1) (.slice A2 n2 c2) (.slice A3 n3 c3) (.slice A4 n4 c4) (.slice A5 n5 c5) (.slice A6 n6 c6))) :
    Calls Tryz.prog 11 #[.pointer (some ⟨rb, 0, none⟩), .agg #[.int .u8 2, .int .i64 a], .agg #[.string s1, .string s2, .int .u8 k, .int .u32 fi, .int .u8 wl, .int .u32 wn, .int .u32 wx, .bool wb, .int .u32 mn, .int .u32 mx, .bool mb, .int .u8 gt, .bool gm], .agg #[.slice P mp cp, .slice R mr cr]] w fun e w' => e = .returned (.int .i64 11) ∧ Kept S0 w w' := by
  have hx := fbox_new w 2 a #[.string s1, .string s2, .int .u8 k, .int .u32 fi, .int .u8 wl, .int .u32 wn, .int .u32 wx, .bool wb, .int .u32 mn, .int .u32 mx, .bool mb, .int .u8 gt, .bool gm] #[.slice P mp cp, .slice R mr cr]
  have hka : Kept S0 w (((w.alloc (.cells #[.int .u8 2, .int .i64 a] 25)).alloc (.cells #[.string s1, .string s2, .int .u8 k, .int .u32 fi, .int .u8 wl, .int .u32 wn, .int .u32 wx, .bool wb, .int .u32 mn, .int .u32 mx, .bool mb, .int .u8 gt, .bool gm] 35)).alloc (.cells #[.slice P mp cp, .slice R mr cr] 38)) := (((Kept.refl S0 w).alloc _).alloc _).alloc _
  have hba := hka.blk hb (fun x => x)
  have HT := Lib.hid (show inA a (n2 : Int) = false by unfold inA; exact decide_eq_false (by omega))
  have HBA := Lib.hid hba
  have HX := Lib.hid hx
  have HK := Lib.hid hka
  clear hb hba hx hka ha
  go_enter Tryz.func11, Tryz.ntmps11
  go_wp2_with fail
  generalize (((w.alloc (.cells #[.int .u8 2, .int .i64 a] 25)).alloc (.cells #[.string s1, .string s2, .int .u8 k, .int .u32 fi, .int .u8 wl, .int .u32 wn, .int .u32 wx, .bool wb, .int .u32 mn, .int .u32 mx, .bool mb, .int .u8 gt, .bool gm] 35)).alloc (.cells #[.slice P mp cp, .slice R mr cr] 38)) = wa at *
  generalize hbx : w.heap.size = bx at *
  refine (rsizes_any HBA.out).mono ?_
  rintro e w2 ⟨rfl, hk2⟩
  have hk3 := hk2.alloc (.cells #[.int .i64 (n0 : Int), .int .i64 (n1 : Int), .int .i64 (n2 : Int), .int .i64 (n3 : Int), .int .i64 (n4 : Int), .int .i64 (n5 : Int), .int .i64 (n6 : Int)] 43)
  have HX3 := Lib.hid (HX.out.kept hk3)
  have HB3 := Lib.hid (hk3.blk HBA.out (fun x => x))
  have HK3 := Lib.hid (HK.out.then0 hk3)
  have HN3 := Lib.hid (Blk.new w2 43 #[.int .i64 (n0 : Int), .int .i64 (n1 : Int), .int .i64 (n2 : Int), .int .i64 (n3 : Int), .int .i64 (n4 : Int), .int .i64 (n5 : Int), .int .i64 (n6 : Int)])
  clear hk2 hk3 HX HBA HK
  go_wp2_with fail
  generalize hab : w2.heap.size = ab at *
  generalize w2.alloc (.cells #[.int .i64 (n0 : Int), .int .i64 (n1 : Int), .int .i64 (n2 : Int), .int .i64 (n3 : Int), .int .i64 (n4 : Int), .int .i64 (n5 : Int), .int .i64 (n6 : Int)] 43) = w3 at *
  have hd := (Kept.refl S0 w3).drew
  have HX4 := Lib.hid (HX3.out.kept hd)
  have HB4 := Lib.hid (hd.blk HB3.out (fun x => x))
  have HK4 := Lib.hid HK3.out.drew
  have HN4 := Lib.hid (hd.blk HN3.out (fun x => x))
  clear hd HX3 HB3 HK3 HN3
  have hS : w3.drew.cell? ⟨bx, 0, none⟩ = some (.int .u8 2) ∧ w3.drew.cell? ⟨bx, 1, none⟩ = some (.int .i64 a) ∧ w3.drew.cell? ⟨ab, 2, none⟩ = some (.int .i64 (n2 : Int)) := ⟨HX4.out.e.cell 0, HX4.out.e.cell 1, HN4.out.cell 2⟩
  refine wp_region_R (fun w' => w'.cell? ⟨bx, 0, none⟩ = some (.int .u8 2) ∧ w'.cell? ⟨bx, 1, none⟩ = some (.int .i64 a) ∧ w'.cell? ⟨ab, 2, none⟩ = some (.int .i64 (n2 : Int))) [] (by kernel_rfl) ?_
  generalize w3.drew = w4 at *
  (first | (refine tkR 0 (v := ?_) rfl hS ⟨by rfl, ?_⟩ ?_; rotate_left; intro w h; (try dsimp only at h); first | (go_simp; done) | (go_simp; with_reducible rfl)) | refine skR 0 rfl (fun _ => hS) (by rfl) ?_); simp only [zq1, zq2, Act.put, zq4, zq5, zq6]
  (first | (refine tkR 1 (v := ?_) rfl hS ⟨by rfl, ?_⟩ ?_; rotate_left; intro w h; (try dsimp only at h); first | (go_simp; done) | (go_simp; with_reducible rfl)) | refine skR 1 rfl (fun _ => hS) (by rfl) ?_); simp only [zq1, zq2, zq3, Act.put, zq4, zq5, zq6]
  (first | (refine tkR 2 (v := ?_) rfl hS ⟨by rfl, ?_⟩ ?_; rotate_left; intro w h; (try dsimp only at h); first | (go_simp; done) | (go_simp; with_reducible rfl)) | refine skR 2 rfl (fun _ => hS) (by rfl) ?_); simp only [zq1, zq2, zq3, Act.put, zq4, zq5, zq6]
  (first | (refine tkR 3 (v := ?_) rfl hS ⟨by rfl, ?_⟩ ?_; rotate_left; intro w h; (try dsimp only at h); first | (go_simp; done) | (go_simp; with_reducible rfl)) | refine skR 3 rfl (fun _ => hS) (by rfl) ?_); simp only [zq1, zq2, zq3, Act.put, zq4, zq5, zq6]
  (first | (refine tkR 4 (v := ?_) rfl hS ⟨by rfl, ?_⟩ ?_; rotate_left; intro w h; (try dsimp only at h); first | (go_simp; done) | (go_simp; with_reducible rfl)) | refine skR 4 rfl (fun _ => hS) (by rfl) ?_); simp only [zq1, zq2, zq3, Act.put, zq4, zq5, zq6]
  (first | (refine tkR 5 (v := ?_) rfl hS ⟨by rfl, ?_⟩ ?_; rotate_left; intro w h; (try dsimp only at h); first | (go_simp; done) | (go_simp; with_reducible rfl)) | refine skR 5 rfl (fun _ => hS) (by rfl) ?_); simp only [zq1, zq2, zq3, Act.put, zq4, zq5, zq6]
  (first | (refine tkR 6 (v := ?_) rfl hS ⟨by rfl, ?_⟩ ?_; rotate_left; intro w h; (try dsimp only at h); first | (go_simp; done) | (go_simp; with_reducible rfl)) | refine skR 6 rfl (fun _ => hS) (by rfl) ?_); simp only [zq1, zq2, zq3, Act.put, zq4, zq5, zq6]
  (first | (refine tkR 7 (v := ?_) rfl hS ⟨by rfl, ?_⟩ ?_; rotate_left; intro w h; (try dsimp only at h); first | (go_simp; done) | (go_simp; with_reducible rfl)) | refine skR 7 rfl (fun _ => hS) (by rfl) ?_); simp only [zq1, zq2, zq3, Act.put, zq4, zq5, zq6]
  (first | (refine tkR 8 (v := ?_) rfl hS ⟨by rfl, ?_⟩ ?_; rotate_left; intro w h; (try dsimp only at h); first | (go_simp; done) | (go_simp; with_reducible rfl)) | refine skR 8 rfl (fun _ => hS) (by rfl) ?_); simp only [zq1, zq2, zq3, Act.put, zq4, zq5, zq6]
  (first | (refine tkR 9 (v := ?_) rfl hS ⟨by rfl, ?_⟩ ?_; rotate_left; intro w h; (try dsimp only at h); first | (go_simp; done) | (go_simp; with_reducible rfl)) | refine skR 9 rfl (fun _ => hS) (by rfl) ?_); simp only [zq1, zq2, zq3, Act.put, zq4, zq5, zq6]
  refine wpAnyR_one 10 rfl (by kernel_rfl) (fun K hK => ?_)
  go_simp
  go_at_call 27
  refine (there_any a n2 _).mono ?_
  rintro e w5 ⟨rfl, rfl⟩
  rw [HT.out]
  refine hK.out _ _ (fun _ => hS) ?_
  clear hK K
  (first | (refine tkR 11 (v := ?_) rfl hS ⟨by rfl, ?_⟩ ?_; rotate_left; intro w h; (try dsimp only at h); first | (go_simp; done) | (go_simp; with_reducible rfl)) | refine skR 11 rfl (fun _ => hS) (by rfl) ?_); simp only [zq1, zq2, zq3, Act.put, zq4, zq5, zq6]
  (first | (refine tkR 12 (v := ?_) rfl hS ⟨by rfl, ?_⟩ ?_; rotate_left; intro w h; (try dsimp only at h); first | (go_simp; done) | (go_simp; with_reducible rfl)) | refine skR 12 rfl (fun _ => hS) (by rfl) ?_); simp only [zq1, zq2, zq3, Act.put, zq4, zq5, zq6]
  refine wpAnyR_done (by kernel_rfl) ?_ _
  clear hS
  go_wp2_with fail
  go_ret
  exact ⟨rfl, HK4.out⟩
set_option maxRecDepth 100000 in
set_option maxHeartbeats 6400000 in
theorem rfits_glob_out (a : Int) (_hn : n3 ≤ 65536) (ha : a < 0 ∨ (n3 : Int) ≤ a) (s1 s2 : ByteArray) (k fi wl wn wx : Int) (wb : Bool) (mn mx : Int) (mb : Bool) (gt : Int) (gm : Bool) (P R : Option Addr) (mp mr cp cr : Nat) (hb : Blk w rb 89 (rCells (.slice A0 n0 c0) (.slice A1 n1 c1) (.slice A2 n2 c2) (.slice A3 n3 c3) (.slice A4 n4 c4) (.slice A5 n5 c5) (.slice A6 n6 c6))) :
    Calls Tryz.prog 11 #[.pointer (some ⟨rb, 0, none⟩), .agg #[.int .u8 3, .int .i64 a], .agg #[.string s1, .string s2, .int .u8 k, .int .u32 fi, .int .u8 wl, .int .u32 wn, .int .u32 wx, .bool wb, .int .u32 mn, .int .u32 mx, .bool mb, .int .u8 gt, .bool gm], .agg #[.slice P mp cp, .slice R mr cr]] w fun e w' => e = .returned (.int .i64 11) ∧ Kept S0 w w' := by
  have hx := fbox_new w 3 a #[.string s1, .string s2, .int .u8 k, .int .u32 fi, .int .u8 wl, .int .u32 wn, .int .u32 wx, .bool wb, .int .u32 mn, .int .u32 mx, .bool mb, .int .u8 gt, .bool gm] #[.slice P mp cp, .slice R mr cr]
  have hka : Kept S0 w (((w.alloc (.cells #[.int .u8 3, .int .i64 a] 25)).alloc (.cells #[.string s1, .string s2, .int .u8 k, .int .u32 fi, .int .u8 wl, .int .u32 wn, .int .u32 wx, .bool wb, .int .u32 mn, .int .u32 mx, .bool mb, .int .u8 gt, .bool gm] 35)).alloc (.cells #[.slice P mp cp, .slice R mr cr] 38)) := (((Kept.refl S0 w).alloc _).alloc _).alloc _
  have hba := hka.blk hb (fun x => x)
  have HT := Lib.hid (show inA a (n3 : Int) = false by unfold inA; exact decide_eq_false (by omega))
  have HBA := Lib.hid hba
  have HX := Lib.hid hx
  have HK := Lib.hid hka
  clear hb hba hx hka ha
  go_enter Tryz.func11, Tryz.ntmps11
  go_wp2_with fail
  generalize (((w.alloc (.cells #[.int .u8 3, .int .i64 a] 25)).alloc (.cells #[.string s1, .string s2, .int .u8 k, .int .u32 fi, .int .u8 wl, .int .u32 wn, .int .u32 wx, .bool wb, .int .u32 mn, .int .u32 mx, .bool mb, .int .u8 gt, .bool gm] 35)).alloc (.cells #[.slice P mp cp, .slice R mr cr] 38)) = wa at *
  generalize hbx : w.heap.size = bx at *
  refine (rsizes_any HBA.out).mono ?_
  rintro e w2 ⟨rfl, hk2⟩
  have hk3 := hk2.alloc (.cells #[.int .i64 (n0 : Int), .int .i64 (n1 : Int), .int .i64 (n2 : Int), .int .i64 (n3 : Int), .int .i64 (n4 : Int), .int .i64 (n5 : Int), .int .i64 (n6 : Int)] 43)
  have HX3 := Lib.hid (HX.out.kept hk3)
  have HB3 := Lib.hid (hk3.blk HBA.out (fun x => x))
  have HK3 := Lib.hid (HK.out.then0 hk3)
  have HN3 := Lib.hid (Blk.new w2 43 #[.int .i64 (n0 : Int), .int .i64 (n1 : Int), .int .i64 (n2 : Int), .int .i64 (n3 : Int), .int .i64 (n4 : Int), .int .i64 (n5 : Int), .int .i64 (n6 : Int)])
  clear hk2 hk3 HX HBA HK
  go_wp2_with fail
  generalize hab : w2.heap.size = ab at *
  generalize w2.alloc (.cells #[.int .i64 (n0 : Int), .int .i64 (n1 : Int), .int .i64 (n2 : Int), .int .i64 (n3 : Int), .int .i64 (n4 : Int), .int .i64 (n5 : Int), .int .i64 (n6 : Int)] 43) = w3 at *
  have hd := (Kept.refl S0 w3).drew
  have HX4 := Lib.hid (HX3.out.kept hd)
  have HB4 := Lib.hid (hd.blk HB3.out (fun x => x))
  have HK4 := Lib.hid HK3.out.drew
  have HN4 := Lib.hid (hd.blk HN3.out (fun x => x))
  clear hd HX3 HB3 HK3 HN3
  have hS : w3.drew.cell? ⟨bx, 0, none⟩ = some (.int .u8 3) ∧ w3.drew.cell? ⟨bx, 1, none⟩ = some (.int .i64 a) ∧ w3.drew.cell? ⟨ab, 3, none⟩ = some (.int .i64 (n3 : Int)) := ⟨HX4.out.e.cell 0, HX4.out.e.cell 1, HN4.out.cell 3⟩
  refine wp_region_R (fun w' => w'.cell? ⟨bx, 0, none⟩ = some (.int .u8 3) ∧ w'.cell? ⟨bx, 1, none⟩ = some (.int .i64 a) ∧ w'.cell? ⟨ab, 3, none⟩ = some (.int .i64 (n3 : Int))) [] (by kernel_rfl) ?_
  generalize w3.drew = w4 at *
  (first | (refine tkR 0 (v := ?_) rfl hS ⟨by rfl, ?_⟩ ?_; rotate_left; intro w h; (try dsimp only at h); first | (go_simp; done) | (go_simp; with_reducible rfl)) | refine skR 0 rfl (fun _ => hS) (by rfl) ?_); simp only [zq1, zq2, Act.put, zq4, zq5, zq6]
  (first | (refine tkR 1 (v := ?_) rfl hS ⟨by rfl, ?_⟩ ?_; rotate_left; intro w h; (try dsimp only at h); first | (go_simp; done) | (go_simp; with_reducible rfl)) | refine skR 1 rfl (fun _ => hS) (by rfl) ?_); simp only [zq1, zq2, zq3, Act.put, zq4, zq5, zq6]
  (first | (refine tkR 2 (v := ?_) rfl hS ⟨by rfl, ?_⟩ ?_; rotate_left; intro w h; (try dsimp only at h); first | (go_simp; done) | (go_simp; with_reducible rfl)) | refine skR 2 rfl (fun _ => hS) (by rfl) ?_); simp only [zq1, zq2, zq3, Act.put, zq4, zq5, zq6]
  (first | (refine tkR 3 (v := ?_) rfl hS ⟨by rfl, ?_⟩ ?_; rotate_left; intro w h; (try dsimp only at h); first | (go_simp; done) | (go_simp; with_reducible rfl)) | refine skR 3 rfl (fun _ => hS) (by rfl) ?_); simp only [zq1, zq2, zq3, Act.put, zq4, zq5, zq6]
  (first | (refine tkR 4 (v := ?_) rfl hS ⟨by rfl, ?_⟩ ?_; rotate_left; intro w h; (try dsimp only at h); first | (go_simp; done) | (go_simp; with_reducible rfl)) | refine skR 4 rfl (fun _ => hS) (by rfl) ?_); simp only [zq1, zq2, zq3, Act.put, zq4, zq5, zq6]
  (first | (refine tkR 5 (v := ?_) rfl hS ⟨by rfl, ?_⟩ ?_; rotate_left; intro w h; (try dsimp only at h); first | (go_simp; done) | (go_simp; with_reducible rfl)) | refine skR 5 rfl (fun _ => hS) (by rfl) ?_); simp only [zq1, zq2, zq3, Act.put, zq4, zq5, zq6]
  (first | (refine tkR 6 (v := ?_) rfl hS ⟨by rfl, ?_⟩ ?_; rotate_left; intro w h; (try dsimp only at h); first | (go_simp; done) | (go_simp; with_reducible rfl)) | refine skR 6 rfl (fun _ => hS) (by rfl) ?_); simp only [zq1, zq2, zq3, Act.put, zq4, zq5, zq6]
  (first | (refine tkR 7 (v := ?_) rfl hS ⟨by rfl, ?_⟩ ?_; rotate_left; intro w h; (try dsimp only at h); first | (go_simp; done) | (go_simp; with_reducible rfl)) | refine skR 7 rfl (fun _ => hS) (by rfl) ?_); simp only [zq1, zq2, zq3, Act.put, zq4, zq5, zq6]
  (first | (refine tkR 8 (v := ?_) rfl hS ⟨by rfl, ?_⟩ ?_; rotate_left; intro w h; (try dsimp only at h); first | (go_simp; done) | (go_simp; with_reducible rfl)) | refine skR 8 rfl (fun _ => hS) (by rfl) ?_); simp only [zq1, zq2, zq3, Act.put, zq4, zq5, zq6]
  (first | (refine tkR 9 (v := ?_) rfl hS ⟨by rfl, ?_⟩ ?_; rotate_left; intro w h; (try dsimp only at h); first | (go_simp; done) | (go_simp; with_reducible rfl)) | refine skR 9 rfl (fun _ => hS) (by rfl) ?_); simp only [zq1, zq2, zq3, Act.put, zq4, zq5, zq6]
  refine wpAnyR_one 10 rfl (by kernel_rfl) (fun K hK => ?_)
  go_simp
  go_at_call 27
  refine (there_any a n3 _).mono ?_
  rintro e w5 ⟨rfl, rfl⟩
  rw [HT.out]
  refine hK.out _ _ (fun _ => hS) ?_
  clear hK K
  (first | (refine tkR 11 (v := ?_) rfl hS ⟨by rfl, ?_⟩ ?_; rotate_left; intro w h; (try dsimp only at h); first | (go_simp; done) | (go_simp; with_reducible rfl)) | refine skR 11 rfl (fun _ => hS) (by rfl) ?_); simp only [zq1, zq2, zq3, Act.put, zq4, zq5, zq6]
  (first | (refine tkR 12 (v := ?_) rfl hS ⟨by rfl, ?_⟩ ?_; rotate_left; intro w h; (try dsimp only at h); first | (go_simp; done) | (go_simp; with_reducible rfl)) | refine skR 12 rfl (fun _ => hS) (by rfl) ?_); simp only [zq1, zq2, zq3, Act.put, zq4, zq5, zq6]
  refine wpAnyR_done (by kernel_rfl) ?_ _
  clear hS
  go_wp2_with fail
  go_ret
  exact ⟨rfl, HK4.out⟩
set_option maxRecDepth 100000 in
set_option maxHeartbeats 6400000 in
theorem rfits_other (ki a : Int) (hki : 3 < ki) (s1 s2 : ByteArray) (k fi wl wn wx : Int) (wb : Bool) (mn mx : Int) (mb : Bool) (gt : Int) (gm : Bool) (P R : Option Addr) (mp mr cp cr : Nat) (hb : Blk w rb 89 (rCells (.slice A0 n0 c0) (.slice A1 n1 c1) (.slice A2 n2 c2) (.slice A3 n3 c3) (.slice A4 n4 c4) (.slice A5 n5 c5) (.slice A6 n6 c6))) :
    Calls Tryz.prog 11 #[.pointer (some ⟨rb, 0, none⟩), .agg #[.int .u8 ki, .int .i64 a], .agg #[.string s1, .string s2, .int .u8 k, .int .u32 fi, .int .u8 wl, .int .u32 wn, .int .u32 wx, .bool wb, .int .u32 mn, .int .u32 mx, .bool mb, .int .u8 gt, .bool gm], .agg #[.slice P mp cp, .slice R mr cr]] w fun e w' => e = .returned (.int .i64 11) ∧ Kept S0 w w' := by
  have hx := fbox_new w ki a #[.string s1, .string s2, .int .u8 k, .int .u32 fi, .int .u8 wl, .int .u32 wn, .int .u32 wx, .bool wb, .int .u32 mn, .int .u32 mx, .bool mb, .int .u8 gt, .bool gm] #[.slice P mp cp, .slice R mr cr]
  have hka : Kept S0 w (((w.alloc (.cells #[.int .u8 ki, .int .i64 a] 25)).alloc (.cells #[.string s1, .string s2, .int .u8 k, .int .u32 fi, .int .u8 wl, .int .u32 wn, .int .u32 wx, .bool wb, .int .u32 mn, .int .u32 mx, .bool mb, .int .u8 gt, .bool gm] 35)).alloc (.cells #[.slice P mp cp, .slice R mr cr] 38)) := (((Kept.refl S0 w).alloc _).alloc _).alloc _
  have hba := hka.blk hb (fun x => x)
  have g1 : decide (3 < ki) = true := decide_eq_true hki
  have HBA := Lib.hid hba
  have HX := Lib.hid hx
  have HK := Lib.hid hka
  clear hb hba hx hka hki
  go_enter Tryz.func11, Tryz.ntmps11
  go_wp2_with fail
  generalize (((w.alloc (.cells #[.int .u8 ki, .int .i64 a] 25)).alloc (.cells #[.string s1, .string s2, .int .u8 k, .int .u32 fi, .int .u8 wl, .int .u32 wn, .int .u32 wx, .bool wb, .int .u32 mn, .int .u32 mx, .bool mb, .int .u8 gt, .bool gm] 35)).alloc (.cells #[.slice P mp cp, .slice R mr cr] 38)) = wa at *
  generalize hbx : w.heap.size = bx at *
  refine (rsizes_any HBA.out).mono ?_
  rintro e w2 ⟨rfl, hk2⟩
  have hk3 := hk2.alloc (.cells #[.int .i64 (n0 : Int), .int .i64 (n1 : Int), .int .i64 (n2 : Int), .int .i64 (n3 : Int), .int .i64 (n4 : Int), .int .i64 (n5 : Int), .int .i64 (n6 : Int)] 43)
  have HX3 := Lib.hid (HX.out.kept hk3)
  have HB3 := Lib.hid (hk3.blk HBA.out (fun x => x))
  have HK3 := Lib.hid (HK.out.then0 hk3)
  have HN3 := Lib.hid (Blk.new w2 43 #[.int .i64 (n0 : Int), .int .i64 (n1 : Int), .int .i64 (n2 : Int), .int .i64 (n3 : Int), .int .i64 (n4 : Int), .int .i64 (n5 : Int), .int .i64 (n6 : Int)])
  clear hk2 hk3 HX HBA HK
  go_wp2_with fail
  generalize hab : w2.heap.size = ab at *
  generalize w2.alloc (.cells #[.int .i64 (n0 : Int), .int .i64 (n1 : Int), .int .i64 (n2 : Int), .int .i64 (n3 : Int), .int .i64 (n4 : Int), .int .i64 (n5 : Int), .int .i64 (n6 : Int)] 43) = w3 at *
  have hd := (Kept.refl S0 w3).drew
  have HX4 := Lib.hid (HX3.out.kept hd)
  have HB4 := Lib.hid (hd.blk HB3.out (fun x => x))
  have HK4 := Lib.hid HK3.out.drew
  have HN4 := Lib.hid (hd.blk HN3.out (fun x => x))
  clear hd HX3 HB3 HK3 HN3
  have hS : w3.drew.cell? ⟨bx, 0, none⟩ = some (.int .u8 ki) ∧ w3.drew.cell? ⟨bx, 1, none⟩ = some (.int .i64 a) := ⟨HX4.out.e.cell 0, HX4.out.e.cell 1⟩
  refine wp_region_R (fun w' => w'.cell? ⟨bx, 0, none⟩ = some (.int .u8 ki) ∧ w'.cell? ⟨bx, 1, none⟩ = some (.int .i64 a)) [] (by kernel_rfl) ?_
  generalize w3.drew = w4 at *
  (first | (refine tkR 0 (v := ?_) rfl hS ⟨by rfl, ?_⟩ ?_; rotate_left; intro w h; (try dsimp only at h); first | (go_simp; done) | (go_simp; with_reducible rfl)) | refine skR 0 rfl (fun _ => hS) (by rfl) ?_); simp only [zq1, zq2, Act.put, zq4, zq5, zq6]
  (first | (refine tkR 1 (v := ?_) rfl hS ⟨by rfl, ?_⟩ ?_; rotate_left; intro w h; (try dsimp only at h); first | (go_simp; done) | (go_simp; with_reducible rfl)) | refine skR 1 rfl (fun _ => hS) (by rfl) ?_); simp only [zq1, zq2, zq3, Act.put, zq4, zq5, zq6]
  (first | (refine tkR 2 (v := ?_) rfl hS ⟨by rfl, ?_⟩ ?_; rotate_left; intro w h; (try dsimp only at h); first | (go_simp; done) | (go_simp; with_reducible rfl)) | refine skR 2 rfl (fun _ => hS) (by rfl) ?_); simp only [zq1, zq2, zq3, Act.put, zq4, zq5, zq6]
  (first | (refine tkR 3 (v := ?_) rfl hS ⟨by rfl, ?_⟩ ?_; rotate_left; intro w h; (try dsimp only at h); first | (go_simp; done) | (go_simp; with_reducible rfl)) | refine skR 3 rfl (fun _ => hS) (by rfl) ?_); simp only [zq1, zq2, zq3, Act.put, zq4, zq5, zq6]
  (first | (refine tkR 4 (v := ?_) rfl hS ⟨by rfl, ?_⟩ ?_; rotate_left; intro w h; (try dsimp only at h); first | (go_simp; done) | (go_simp; with_reducible rfl)) | refine skR 4 rfl (fun _ => hS) (by rfl) ?_); simp only [zq1, zq2, zq3, Act.put, zq4, zq5, zq6]
  (first | (refine tkR 5 (v := ?_) rfl hS ⟨by rfl, ?_⟩ ?_; rotate_left; intro w h; (try dsimp only at h); first | (go_simp; done) | (go_simp; with_reducible rfl)) | refine skR 5 rfl (fun _ => hS) (by rfl) ?_); simp only [zq1, zq2, zq3, Act.put, zq4, zq5, zq6]
  (first | (refine tkR 6 (v := ?_) rfl hS ⟨by rfl, ?_⟩ ?_; rotate_left; intro w h; (try dsimp only at h); first | (go_simp; done) | (go_simp; with_reducible rfl)) | refine skR 6 rfl (fun _ => hS) (by rfl) ?_); simp only [zq1, zq2, zq3, Act.put, zq4, zq5, zq6]
  (first | (refine tkR 7 (v := ?_) rfl hS ⟨by rfl, ?_⟩ ?_; rotate_left; intro w h; (try dsimp only at h); first | (go_simp; done) | (go_simp; with_reducible rfl)) | refine skR 7 rfl (fun _ => hS) (by rfl) ?_); simp only [zq1, zq2, zq3, Act.put, zq4, zq5, zq6]
  (first | (refine tkR 8 (v := ?_) rfl hS ⟨by rfl, ?_⟩ ?_; rotate_left; intro w h; (try dsimp only at h); first | (go_simp; done) | (go_simp; with_reducible rfl)) | refine skR 8 rfl (fun _ => hS) (by rfl) ?_); simp only [zq1, zq2, zq3, Act.put, zq4, zq5, zq6]
  (first | (refine tkR 9 (v := ?_) rfl hS ⟨by rfl, ?_⟩ ?_; rotate_left; intro w h; (try dsimp only at h); first | (go_simp; done) | (go_simp; with_reducible rfl)) | refine skR 9 rfl (fun _ => hS) (by rfl) ?_); simp only [zq1, zq2, zq3, Act.put, zq4, zq5, zq6]
  (first | (refine tkR 10 (v := ?_) rfl hS ⟨by rfl, ?_⟩ ?_; rotate_left; intro w h; (try dsimp only at h); first | (go_simp; done) | (go_simp; with_reducible rfl)) | refine skR 10 rfl (fun _ => hS) (by rfl) ?_); simp only [zq1, zq2, zq3, Act.put, zq4, zq5, zq6]
  (first | (refine tkR 11 (v := ?_) rfl hS ⟨by rfl, ?_⟩ ?_; rotate_left; intro w h; (try dsimp only at h); first | (go_simp; done) | (go_simp; with_reducible rfl)) | refine skR 11 rfl (fun _ => hS) (by rfl) ?_); simp only [zq1, zq2, zq3, Act.put, zq4, zq5, zq6]
  (first | (refine tkR 12 (v := ?_) rfl hS ⟨by rfl, ?_⟩ ?_; rotate_left; intro w h; (try dsimp only at h); first | (go_simp; done) | (go_simp; with_reducible rfl)) | refine skR 12 rfl (fun _ => hS) (by rfl) ?_); simp only [zq1, zq2, zq3, Act.put, zq4, zq5, zq6]
  refine wpAnyR_done (by kernel_rfl) ?_ _
  clear hS
  go_wp2_with fail
  go_ret
  exact ⟨rfl, HK4.out⟩
set_option maxRecDepth 100000 in
set_option maxHeartbeats 6400000 in
theorem rfits_func_in (a : Nat) (fA fC : Option Addr) (np fc nr fd : Nat) (v u : Nat → UInt8) (h : Bool) (s : ByteArray) (i b : Int) (hown : Own w B 51 6 AnyV (.slice A0 n0 c0) n0 F) (hn : n0 ≤ 65536) (ha : a < n0) (hF : FnAt w F a fA np fc v fC nr fd u h s i b) (s1 s2 : ByteArray) (k fi wl wn wx : Int) (wb : Bool) (mn mx : Int) (mb : Bool) (gt : Int) (gm : Bool) (P R : Option Addr) (mp mr cp cr : Nat) (pv ru : Nat → UInt8) (hP : TSl w P mp cp pv) (hR : TSl w R mr cr ru) (hb : Blk w rb 89 (rCells (.slice A0 n0 c0) (.slice A1 n1 c1) (.slice A2 n2 c2) (.slice A3 n3 c3) (.slice A4 n4 c4) (.slice A5 n5 c5) (.slice A6 n6 c6))) :
    Calls Tryz.prog 11 #[.pointer (some ⟨rb, 0, none⟩), .agg #[.int .u8 0, .int .i64 (a : Int)], .agg #[.string s1, .string s2, .int .u8 k, .int .u32 fi, .int .u8 wl, .int .u32 wn, .int .u32 wx, .bool wb, .int .u32 mn, .int .u32 mx, .bool mb, .int .u8 gt, .bool gm], .agg #[.slice P mp cp, .slice R mr cr]] w fun e w' => e = .returned (.int .i64 (fitR ((0 : Int) == k) (eqT np mp v pv && eqT nr mr u ru))) ∧ Kept S0 w w' := by
  have hx := fbox_new w 0 (a : Int) #[.string s1, .string s2, .int .u8 k, .int .u32 fi, .int .u8 wl, .int .u32 wn, .int .u32 wx, .bool wb, .int .u32 mn, .int .u32 mx, .bool mb, .int .u8 gt, .bool gm] #[.slice P mp cp, .slice R mr cr]
  have hka : Kept S0 w (((w.alloc (.cells #[.int .u8 0, .int .i64 (a : Int)] 25)).alloc (.cells #[.string s1, .string s2, .int .u8 k, .int .u32 fi, .int .u8 wl, .int .u32 wn, .int .u32 wx, .bool wb, .int .u32 mn, .int .u32 mx, .bool mb, .int .u8 gt, .bool gm] 35)).alloc (.cells #[.slice P mp cp, .slice R mr cr] 38)) := (((Kept.refl S0 w).alloc _).alloc _).alloc _
  have hba := hka.blk hb (fun x => x)
  obtain ⟨g, fc', hfl, _, _⟩ := hown.is_some (by omega)
  cases hfl
  have HT := Lib.hid (show inA (a : Int) (n0 : Int) = true by unfold inA; exact decide_eq_true (by omega))
  have i0 : (0 : Int) ≤ (a : Int) := by omega
  have i1 : (a : Int) < (n0 : Int) := by omega
  have HBA := Lib.hid hba
  have HX := Lib.hid hx
  have HK := Lib.hid hka
  have HO := Lib.hid (hown.kept hka (fun _ _ x => x))
  have HFN := Lib.hid (hF.kept hka)
  have HP := Lib.hid (hP.kept hka)
  have HR := Lib.hid (hR.kept hka)
  clear hb hba hx hka hown hF hP hR
  go_enter Tryz.func11, Tryz.ntmps11
  go_wp2_with fail
  generalize (((w.alloc (.cells #[.int .u8 0, .int .i64 (a : Int)] 25)).alloc (.cells #[.string s1, .string s2, .int .u8 k, .int .u32 fi, .int .u8 wl, .int .u32 wn, .int .u32 wx, .bool wb, .int .u32 mn, .int .u32 mx, .bool mb, .int .u8 gt, .bool gm] 35)).alloc (.cells #[.slice P mp cp, .slice R mr cr] 38)) = wa at *
  generalize hbx : w.heap.size = bx at *
  refine (rsizes_any HBA.out).mono ?_
  rintro e w2 ⟨rfl, hk2⟩
  have hk3 := hk2.alloc (.cells #[.int .i64 (n0 : Int), .int .i64 (n1 : Int), .int .i64 (n2 : Int), .int .i64 (n3 : Int), .int .i64 (n4 : Int), .int .i64 (n5 : Int), .int .i64 (n6 : Int)] 43)
  have HX3 := Lib.hid (HX.out.kept hk3)
  have HB3 := Lib.hid (hk3.blk HBA.out (fun x => x))
  have HK3 := Lib.hid (HK.out.then0 hk3)
  have HN3 := Lib.hid (Blk.new w2 43 #[.int .i64 (n0 : Int), .int .i64 (n1 : Int), .int .i64 (n2 : Int), .int .i64 (n3 : Int), .int .i64 (n4 : Int), .int .i64 (n5 : Int), .int .i64 (n6 : Int)])
  have HO3 := Lib.hid (HO.out.kept hk3 (fun _ _ x => x))
  have HFN3 := Lib.hid (HFN.out.kept hk3)
  have HP3 := Lib.hid (HP.out.kept hk3)
  have HR3 := Lib.hid (HR.out.kept hk3)
  clear hk2 hk3 HX HBA HK HO HFN HP HR
  go_wp2_with fail
  generalize hab : w2.heap.size = ab at *
  generalize w2.alloc (.cells #[.int .i64 (n0 : Int), .int .i64 (n1 : Int), .int .i64 (n2 : Int), .int .i64 (n3 : Int), .int .i64 (n4 : Int), .int .i64 (n5 : Int), .int .i64 (n6 : Int)] 43) = w3 at *
  have hd := (Kept.refl S0 w3).drew
  have HX4 := Lib.hid (HX3.out.kept hd)
  have HB4 := Lib.hid (hd.blk HB3.out (fun x => x))
  have HK4 := Lib.hid HK3.out.drew
  have HN4 := Lib.hid (hd.blk HN3.out (fun x => x))
  have HO4 := Lib.hid (HO3.out.kept hd (fun _ _ x => x))
  have HFN4 := Lib.hid (HFN3.out.kept hd)
  have HP4 := Lib.hid (HP3.out.kept hd)
  have HR4 := Lib.hid (HR3.out.kept hd)
  clear hd HX3 HB3 HK3 HN3 HO3 HFN3 HP3 HR3
  have hS : w3.drew.cell? ⟨bx, 0, none⟩ = some (.int .u8 0) ∧ w3.drew.cell? ⟨bx, 1, none⟩ = some (.int .i64 (a : Int)) ∧ w3.drew.cell? ⟨ab, 0, none⟩ = some (.int .i64 (n0 : Int)) := ⟨HX4.out.e.cell 0, HX4.out.e.cell 1, HN4.out.cell 0⟩
  refine wp_region_R (fun w' => w'.cell? ⟨bx, 0, none⟩ = some (.int .u8 0) ∧ w'.cell? ⟨bx, 1, none⟩ = some (.int .i64 (a : Int)) ∧ w'.cell? ⟨ab, 0, none⟩ = some (.int .i64 (n0 : Int))) [] (by kernel_rfl) ?_
  generalize w3.drew = w4 at *
  (first | (refine tkR 0 (v := ?_) rfl hS ⟨by rfl, ?_⟩ ?_; rotate_left; intro w h; (try dsimp only at h); first | (go_simp; done) | (go_simp; with_reducible rfl)) | refine skR 0 rfl (fun _ => hS) (by rfl) ?_); simp only [zq1, zq2, Act.put, zq4, zq5, zq6]
  (first | (refine tkR 1 (v := ?_) rfl hS ⟨by rfl, ?_⟩ ?_; rotate_left; intro w h; (try dsimp only at h); first | (go_simp; done) | (go_simp; with_reducible rfl)) | refine skR 1 rfl (fun _ => hS) (by rfl) ?_); simp only [zq1, zq2, zq3, Act.put, zq4, zq5, zq6]
  (first | (refine tkR 2 (v := ?_) rfl hS ⟨by rfl, ?_⟩ ?_; rotate_left; intro w h; (try dsimp only at h); first | (go_simp; done) | (go_simp; with_reducible rfl)) | refine skR 2 rfl (fun _ => hS) (by rfl) ?_); simp only [zq1, zq2, zq3, Act.put, zq4, zq5, zq6]
  (first | (refine tkR 3 (v := ?_) rfl hS ⟨by rfl, ?_⟩ ?_; rotate_left; intro w h; (try dsimp only at h); first | (go_simp; done) | (go_simp; with_reducible rfl)) | refine skR 3 rfl (fun _ => hS) (by rfl) ?_); simp only [zq1, zq2, zq3, Act.put, zq4, zq5, zq6]
  (first | (refine tkR 4 (v := ?_) rfl hS ⟨by rfl, ?_⟩ ?_; rotate_left; intro w h; (try dsimp only at h); first | (go_simp; done) | (go_simp; with_reducible rfl)) | refine skR 4 rfl (fun _ => hS) (by rfl) ?_); simp only [zq1, zq2, zq3, Act.put, zq4, zq5, zq6]
  (first | (refine tkR 5 (v := ?_) rfl hS ⟨by rfl, ?_⟩ ?_; rotate_left; intro w h; (try dsimp only at h); first | (go_simp; done) | (go_simp; with_reducible rfl)) | refine skR 5 rfl (fun _ => hS) (by rfl) ?_); simp only [zq1, zq2, zq3, Act.put, zq4, zq5, zq6]
  (first | (refine tkR 6 (v := ?_) rfl hS ⟨by rfl, ?_⟩ ?_; rotate_left; intro w h; (try dsimp only at h); first | (go_simp; done) | (go_simp; with_reducible rfl)) | refine skR 6 rfl (fun _ => hS) (by rfl) ?_); simp only [zq1, zq2, zq3, Act.put, zq4, zq5, zq6]
  (first | (refine tkR 7 (v := ?_) rfl hS ⟨by rfl, ?_⟩ ?_; rotate_left; intro w h; (try dsimp only at h); first | (go_simp; done) | (go_simp; with_reducible rfl)) | refine skR 7 rfl (fun _ => hS) (by rfl) ?_); simp only [zq1, zq2, zq3, Act.put, zq4, zq5, zq6]
  (first | (refine tkR 8 (v := ?_) rfl hS ⟨by rfl, ?_⟩ ?_; rotate_left; intro w h; (try dsimp only at h); first | (go_simp; done) | (go_simp; with_reducible rfl)) | refine skR 8 rfl (fun _ => hS) (by rfl) ?_); simp only [zq1, zq2, zq3, Act.put, zq4, zq5, zq6]
  (first | (refine tkR 9 (v := ?_) rfl hS ⟨by rfl, ?_⟩ ?_; rotate_left; intro w h; (try dsimp only at h); first | (go_simp; done) | (go_simp; with_reducible rfl)) | refine skR 9 rfl (fun _ => hS) (by rfl) ?_); simp only [zq1, zq2, zq3, Act.put, zq4, zq5, zq6]
  refine wpAnyR_one 10 rfl (by kernel_rfl) (fun K hK => ?_)
  go_simp
  go_at_call 27
  refine (there_any (a : Int) n0 _).mono ?_
  rintro e w5 ⟨rfl, rfl⟩
  rw [HT.out]
  refine hK.out _ _ (fun _ => hS) ?_
  clear hK K
  (first | (refine tkR 11 (v := ?_) rfl hS ⟨by rfl, ?_⟩ ?_; rotate_left; intro w h; (try dsimp only at h); first | (go_simp; done) | (go_simp; with_reducible rfl)) | refine skR 11 rfl (fun _ => hS) (by rfl) ?_); simp only [zq1, zq2, zq3, Act.put, zq4, zq5, zq6]
  (first | (refine tkR 12 (v := ?_) rfl hS ⟨by rfl, ?_⟩ ?_; rotate_left; intro w h; (try dsimp only at h); first | (go_simp; done) | (go_simp; with_reducible rfl)) | refine skR 12 rfl (fun _ => hS) (by rfl) ?_); simp only [zq1, zq2, zq3, Act.put, zq4, zq5, zq6]
  refine wpAnyR_done (by kernel_rfl) ?_ _
  clear hS
  have e0 := HX4.out.e.cell 0
  have i2 : w4.cell? ⟨bx + 1, 2, none⟩ = some (.int .u8 k) := HX4.out.i.cell 2
  cases hk : ((0 : Int) == k) with
  | false =>
    have hk1 : ((0 : Int) != k) = true := by unfold bne; rw [hk]; rfl
    have HKQ := Lib.hid hk
    clear hk
    go_wp2_with fail
    go_ret
    exact ⟨ret_int (by rw [HKQ.out]; simp [fitR]), HK4.out⟩
  | true =>
    have hk1 : ((0 : Int) != k) = false := by unfold bne; rw [hk]; rfl
    have HKQ := Lib.hid hk
    clear hk
    go_wp2_with fail
    clear e0 i2
    have hd := (Kept.refl S0 w4).drew
    have HO5 := HO4.out.kept hd (fun _ _ x => x)
    have HB5 := hd.blk HB4.out (fun x => x)
    have HX5 := HX4.out.kept hd
    have HF5 := Lib.hid (HFN4.out.kept hd)
    have HP5 := Lib.hid (HP4.out.kept hd)
    have HR5 := Lib.hid (HR4.out.kept hd)
    have HK5 := Lib.hid (HK4.out.drew)
    have hS : w4.drew.cell? ⟨rb, 0, none⟩ = some (.slice (some ⟨g, 0, none⟩) n0 c0) ∧ w4.drew.cell? ⟨bx, 1, none⟩ = some (.int .i64 (a : Int)) ∧ w4.drew.cell? ⟨g, a * 6, none⟩ = some (.slice fA np fc) ∧ w4.drew.cell? ⟨g, a * 6 + 1, none⟩ = some (.slice fC nr fd) ∧ w4.drew.cell? ⟨bx + 2, 0, none⟩ = some (.slice P mp cp) ∧ w4.drew.cell? ⟨bx + 2, 1, none⟩ = some (.slice R mr cr) := ⟨HB5.cell 0, HX5.e.cell 1, (HO5.rowcell (j := a * 6) (by omega)).trans (congrArg some HF5.out.f0), (HO5.rowcell (j := a * 6 + 1) (by omega)).trans (congrArg some HF5.out.f1), HX5.t.cell 0, HX5.t.cell 1⟩
    refine wp_region_R (fun w' => w'.cell? ⟨rb, 0, none⟩ = some (.slice (some ⟨g, 0, none⟩) n0 c0) ∧ w'.cell? ⟨bx, 1, none⟩ = some (.int .i64 (a : Int)) ∧ w'.cell? ⟨g, a * 6, none⟩ = some (.slice fA np fc) ∧ w'.cell? ⟨g, a * 6 + 1, none⟩ = some (.slice fC nr fd) ∧ w'.cell? ⟨bx + 2, 0, none⟩ = some (.slice P mp cp) ∧ w'.cell? ⟨bx + 2, 1, none⟩ = some (.slice R mr cr)) [] (by kernel_rfl) ?_
    clear hd HO5 HB5 HX5 HO4 HB4 HX4 HK4 HFN4 HP4 HR4 HN4
    generalize w4.drew = w5 at *
    (first | (refine tkR 0 (v := ?_) rfl hS ⟨by rfl, ?_⟩ ?_; rotate_left; intro w h; (try dsimp only at h); first | (go_simp; done) | (go_simp; with_reducible rfl)) | refine skR 0 rfl (fun _ => hS) (by rfl) ?_); simp only [zq1, zq2, Act.put, zq4, zq5, zq6]
    (first | (refine tkR 1 (v := ?_) rfl hS ⟨by rfl, ?_⟩ ?_; rotate_left; intro w h; (try dsimp only at h); first | (go_simp; done) | (go_simp; with_reducible rfl)) | refine skR 1 rfl (fun _ => hS) (by rfl) ?_); simp only [zq1, zq2, zq3, Act.put, zq4, zq5, zq6]
    (first | (refine tkR 2 (v := ?_) rfl hS ⟨by rfl, ?_⟩ ?_; rotate_left; intro w h; (try dsimp only at h); first | (go_simp; done) | (go_simp; with_reducible rfl)) | refine skR 2 rfl (fun _ => hS) (by rfl) ?_); simp only [zq1, zq2, zq3, Act.put, zq4, zq5, zq6]
    (first | (refine tkR 3 (v := ?_) rfl hS ⟨by rfl, ?_⟩ ?_; rotate_left; intro w h; (try dsimp only at h); first | (go_simp; done) | (go_simp; with_reducible rfl)) | refine skR 3 rfl (fun _ => hS) (by rfl) ?_); simp only [zq1, zq2, zq3, Act.put, zq4, zq5, zq6]
    (first | (refine tkR 4 (v := ?_) rfl hS ⟨by rfl, ?_⟩ ?_; rotate_left; intro w h; (try dsimp only at h); first | (go_simp; done) | (go_simp; with_reducible rfl)) | refine skR 4 rfl (fun _ => hS) (by rfl) ?_); simp only [zq1, zq2, zq3, Act.put, zq4, zq5, zq6]
    (first | (refine tkR 5 (v := ?_) rfl hS ⟨by rfl, ?_⟩ ?_; rotate_left; intro w h; (try dsimp only at h); first | (go_simp; done) | (go_simp; with_reducible rfl)) | refine skR 5 rfl (fun _ => hS) (by rfl) ?_); simp only [zq1, zq2, zq3, Act.put, zq4, zq5, zq6]
    (first | (refine tkR 6 (v := ?_) rfl hS ⟨by rfl, ?_⟩ ?_; rotate_left; intro w h; (try dsimp only at h); first | (go_simp; done) | (go_simp; with_reducible rfl)) | refine skR 6 rfl (fun _ => hS) (by rfl) ?_); simp only [zq1, zq2, zq3, Act.put, zq4, zq5, zq6]
    (first | (refine tkR 7 (v := ?_) rfl hS ⟨by rfl, ?_⟩ ?_; rotate_left; intro w h; (try dsimp only at h); first | (go_simp; done) | (go_simp; with_reducible rfl)) | refine skR 7 rfl (fun _ => hS) (by rfl) ?_); simp only [zq1, zq2, zq3, Act.put, zq4, zq5, zq6]
    (first | (refine tkR 8 (v := ?_) rfl hS ⟨by rfl, ?_⟩ ?_; rotate_left; intro w h; (try dsimp only at h); first | (go_simp; done) | (go_simp; with_reducible rfl)) | refine skR 8 rfl (fun _ => hS) (by rfl) ?_); simp only [zq1, zq2, zq3, Act.put, zq4, zq5, zq6]
    (first | (refine tkR 9 (v := ?_) rfl hS ⟨by rfl, ?_⟩ ?_; rotate_left; intro w h; (try dsimp only at h); first | (go_simp; done) | (go_simp; with_reducible rfl)) | refine skR 9 rfl (fun _ => hS) (by rfl) ?_); simp only [zq1, zq2, zq3, Act.put, zq4, zq5, zq6]
    refine wpAnyR_one 10 rfl (by kernel_rfl) (fun K hK => ?_)
    go_simp
    go_at_call 15
    refine (func_any fA fC P R np nr mp mr fc fd cp cr v u pv ru _ HF5.out.p HF5.out.r HP5.out HR5.out).mono ?_
    rintro e w6 ⟨rfl, hk6⟩
    have hS6 : w6.cell? ⟨rb, 0, none⟩ = some (.slice (some ⟨g, 0, none⟩) n0 c0) ∧ w6.cell? ⟨bx, 1, none⟩ = some (.int .i64 (a : Int)) ∧ w6.cell? ⟨g, a * 6, none⟩ = some (.slice fA np fc) ∧ w6.cell? ⟨g, a * 6 + 1, none⟩ = some (.slice fC nr fd) ∧ w6.cell? ⟨bx + 2, 0, none⟩ = some (.slice P mp cp) ∧ w6.cell? ⟨bx + 2, 1, none⟩ = some (.slice R mr cr) := ⟨keep0 hk6 hS.1, keep0 hk6 hS.2.1, keep0 hk6 hS.2.2.1, keep0 hk6 hS.2.2.2.1, keep0 hk6 hS.2.2.2.2.1, keep0 hk6 hS.2.2.2.2.2⟩
    refine hK.out _ _ (fun _ => hS6) ?_
    clear hK K
    have HK6 := Lib.hid (HK5.out.then0 hk6)
    (first | (refine tkR 11 (v := ?_) rfl hS6 ⟨by rfl, ?_⟩ ?_; rotate_left; intro w h; (try dsimp only at h); first | (go_simp; done) | (go_simp; with_reducible rfl)) | refine skR 11 rfl (fun _ => hS6) (by rfl) ?_); simp only [zq1, zq2, zq3, Act.put, zq4, zq5, zq6]
    refine wpAnyR_done (by kernel_rfl) ?_ _
    clear hS hS6 hk6 HF5 HP5 HR5 HK5
    cases hok : (eqT np mp v pv && eqT nr mr u ru) with
    | false =>
      have HO2 := Lib.hid hok
      clear hok
      go_wp2_with fail
      go_ret
      exact ⟨ret_int (by rw [HKQ.out, HO2.out]; rfl), HK6.out⟩
    | true =>
      have HO2 := Lib.hid hok
      clear hok
      go_wp2_with fail
      go_ret
      exact ⟨ret_int (by rw [HKQ.out, HO2.out]; rfl), HK6.out⟩
set_option maxRecDepth 100000 in
set_option maxHeartbeats 6400000 in
theorem rfits_table_in (a ob base N : Nat) (tel tmn tx : Int) (tb : Bool) (tlv : Value) (tf : Nat → V3) (hown : Own w B 161 1 AnyV (.slice A1 n1 c1) n1 F) (hn : n1 ≤ 65536) (ha : a < n1) (hF : F a = .pointer (some ⟨ob, 0, none⟩)) (ho : T20.RefAt w ob base N tel tmn tx tb tlv tf) (hN : N ≤ 16384) (s1 s2 : ByteArray) (k fi wl wn wx : Int) (wb : Bool) (mn mx : Int) (mb : Bool) (gt : Int) (gm : Bool) (P R : Option Addr) (mp mr cp cr : Nat) (hb : Blk w rb 89 (rCells (.slice A0 n0 c0) (.slice A1 n1 c1) (.slice A2 n2 c2) (.slice A3 n3 c3) (.slice A4 n4 c4) (.slice A5 n5 c5) (.slice A6 n6 c6))) :
    Calls Tryz.prog 11 #[.pointer (some ⟨rb, 0, none⟩), .agg #[.int .u8 1, .int .i64 (a : Int)], .agg #[.string s1, .string s2, .int .u8 k, .int .u32 fi, .int .u8 wl, .int .u32 wn, .int .u32 wx, .bool wb, .int .u32 mn, .int .u32 mx, .bool mb, .int .u8 gt, .bool gm], .agg #[.slice P mp cp, .slice R mr cr]] w fun e w' => e = .returned (.int .i64 (fitR ((1 : Int) == k) ((tel == wl) && fitLB N tx tb wn wx wb))) ∧ Kept S0 w w' := by
  have hx := fbox_new w 1 (a : Int) #[.string s1, .string s2, .int .u8 k, .int .u32 fi, .int .u8 wl, .int .u32 wn, .int .u32 wx, .bool wb, .int .u32 mn, .int .u32 mx, .bool mb, .int .u8 gt, .bool gm] #[.slice P mp cp, .slice R mr cr]
  have hka : Kept S0 w (((w.alloc (.cells #[.int .u8 1, .int .i64 (a : Int)] 25)).alloc (.cells #[.string s1, .string s2, .int .u8 k, .int .u32 fi, .int .u8 wl, .int .u32 wn, .int .u32 wx, .bool wb, .int .u32 mn, .int .u32 mx, .bool mb, .int .u8 gt, .bool gm] 35)).alloc (.cells #[.slice P mp cp, .slice R mr cr] 38)) := (((Kept.refl S0 w).alloc _).alloc _).alloc _
  have hba := hka.blk hb (fun x => x)
  have HT := Lib.hid (show inA (a : Int) (n1 : Int) = true by unfold inA; exact decide_eq_true (by omega))
  have i0 : (0 : Int) ≤ (a : Int) := by omega
  have i1 : (a : Int) < (n1 : Int) := by omega
  have HBA := Lib.hid hba
  have HX := Lib.hid hx
  have HK := Lib.hid hka
  have HO := Lib.hid (hown.kept hka (fun _ _ x => x))
  have HOB := Lib.hid (ho.kept0 hka)
  clear hb hba hx hka hown ho
  go_enter Tryz.func11, Tryz.ntmps11
  go_wp2_with fail
  generalize (((w.alloc (.cells #[.int .u8 1, .int .i64 (a : Int)] 25)).alloc (.cells #[.string s1, .string s2, .int .u8 k, .int .u32 fi, .int .u8 wl, .int .u32 wn, .int .u32 wx, .bool wb, .int .u32 mn, .int .u32 mx, .bool mb, .int .u8 gt, .bool gm] 35)).alloc (.cells #[.slice P mp cp, .slice R mr cr] 38)) = wa at *
  generalize hbx : w.heap.size = bx at *
  refine (rsizes_any HBA.out).mono ?_
  rintro e w2 ⟨rfl, hk2⟩
  have hk3 := hk2.alloc (.cells #[.int .i64 (n0 : Int), .int .i64 (n1 : Int), .int .i64 (n2 : Int), .int .i64 (n3 : Int), .int .i64 (n4 : Int), .int .i64 (n5 : Int), .int .i64 (n6 : Int)] 43)
  have HX3 := Lib.hid (HX.out.kept hk3)
  have HB3 := Lib.hid (hk3.blk HBA.out (fun x => x))
  have HK3 := Lib.hid (HK.out.then0 hk3)
  have HN3 := Lib.hid (Blk.new w2 43 #[.int .i64 (n0 : Int), .int .i64 (n1 : Int), .int .i64 (n2 : Int), .int .i64 (n3 : Int), .int .i64 (n4 : Int), .int .i64 (n5 : Int), .int .i64 (n6 : Int)])
  have HO3 := Lib.hid (HO.out.kept hk3 (fun _ _ x => x))
  have HOB3 := Lib.hid (HOB.out.kept0 hk3)
  clear hk2 hk3 HX HBA HK HO HOB
  go_wp2_with fail
  generalize hab : w2.heap.size = ab at *
  generalize w2.alloc (.cells #[.int .i64 (n0 : Int), .int .i64 (n1 : Int), .int .i64 (n2 : Int), .int .i64 (n3 : Int), .int .i64 (n4 : Int), .int .i64 (n5 : Int), .int .i64 (n6 : Int)] 43) = w3 at *
  have hd := (Kept.refl S0 w3).drew
  have HX4 := Lib.hid (HX3.out.kept hd)
  have HB4 := Lib.hid (hd.blk HB3.out (fun x => x))
  have HK4 := Lib.hid HK3.out.drew
  have HN4 := Lib.hid (hd.blk HN3.out (fun x => x))
  have HO4 := Lib.hid (HO3.out.kept hd (fun _ _ x => x))
  have HOB4 := Lib.hid (HOB3.out.kept0 hd)
  clear hd HX3 HB3 HK3 HN3 HO3 HOB3
  have hS : w3.drew.cell? ⟨bx, 0, none⟩ = some (.int .u8 1) ∧ w3.drew.cell? ⟨bx, 1, none⟩ = some (.int .i64 (a : Int)) ∧ w3.drew.cell? ⟨ab, 1, none⟩ = some (.int .i64 (n1 : Int)) := ⟨HX4.out.e.cell 0, HX4.out.e.cell 1, HN4.out.cell 1⟩
  refine wp_region_R (fun w' => w'.cell? ⟨bx, 0, none⟩ = some (.int .u8 1) ∧ w'.cell? ⟨bx, 1, none⟩ = some (.int .i64 (a : Int)) ∧ w'.cell? ⟨ab, 1, none⟩ = some (.int .i64 (n1 : Int))) [] (by kernel_rfl) ?_
  generalize w3.drew = w4 at *
  (first | (refine tkR 0 (v := ?_) rfl hS ⟨by rfl, ?_⟩ ?_; rotate_left; intro w h; (try dsimp only at h); first | (go_simp; done) | (go_simp; with_reducible rfl)) | refine skR 0 rfl (fun _ => hS) (by rfl) ?_); simp only [zq1, zq2, Act.put, zq4, zq5, zq6]
  (first | (refine tkR 1 (v := ?_) rfl hS ⟨by rfl, ?_⟩ ?_; rotate_left; intro w h; (try dsimp only at h); first | (go_simp; done) | (go_simp; with_reducible rfl)) | refine skR 1 rfl (fun _ => hS) (by rfl) ?_); simp only [zq1, zq2, zq3, Act.put, zq4, zq5, zq6]
  (first | (refine tkR 2 (v := ?_) rfl hS ⟨by rfl, ?_⟩ ?_; rotate_left; intro w h; (try dsimp only at h); first | (go_simp; done) | (go_simp; with_reducible rfl)) | refine skR 2 rfl (fun _ => hS) (by rfl) ?_); simp only [zq1, zq2, zq3, Act.put, zq4, zq5, zq6]
  (first | (refine tkR 3 (v := ?_) rfl hS ⟨by rfl, ?_⟩ ?_; rotate_left; intro w h; (try dsimp only at h); first | (go_simp; done) | (go_simp; with_reducible rfl)) | refine skR 3 rfl (fun _ => hS) (by rfl) ?_); simp only [zq1, zq2, zq3, Act.put, zq4, zq5, zq6]
  (first | (refine tkR 4 (v := ?_) rfl hS ⟨by rfl, ?_⟩ ?_; rotate_left; intro w h; (try dsimp only at h); first | (go_simp; done) | (go_simp; with_reducible rfl)) | refine skR 4 rfl (fun _ => hS) (by rfl) ?_); simp only [zq1, zq2, zq3, Act.put, zq4, zq5, zq6]
  (first | (refine tkR 5 (v := ?_) rfl hS ⟨by rfl, ?_⟩ ?_; rotate_left; intro w h; (try dsimp only at h); first | (go_simp; done) | (go_simp; with_reducible rfl)) | refine skR 5 rfl (fun _ => hS) (by rfl) ?_); simp only [zq1, zq2, zq3, Act.put, zq4, zq5, zq6]
  (first | (refine tkR 6 (v := ?_) rfl hS ⟨by rfl, ?_⟩ ?_; rotate_left; intro w h; (try dsimp only at h); first | (go_simp; done) | (go_simp; with_reducible rfl)) | refine skR 6 rfl (fun _ => hS) (by rfl) ?_); simp only [zq1, zq2, zq3, Act.put, zq4, zq5, zq6]
  (first | (refine tkR 7 (v := ?_) rfl hS ⟨by rfl, ?_⟩ ?_; rotate_left; intro w h; (try dsimp only at h); first | (go_simp; done) | (go_simp; with_reducible rfl)) | refine skR 7 rfl (fun _ => hS) (by rfl) ?_); simp only [zq1, zq2, zq3, Act.put, zq4, zq5, zq6]
  (first | (refine tkR 8 (v := ?_) rfl hS ⟨by rfl, ?_⟩ ?_; rotate_left; intro w h; (try dsimp only at h); first | (go_simp; done) | (go_simp; with_reducible rfl)) | refine skR 8 rfl (fun _ => hS) (by rfl) ?_); simp only [zq1, zq2, zq3, Act.put, zq4, zq5, zq6]
  (first | (refine tkR 9 (v := ?_) rfl hS ⟨by rfl, ?_⟩ ?_; rotate_left; intro w h; (try dsimp only at h); first | (go_simp; done) | (go_simp; with_reducible rfl)) | refine skR 9 rfl (fun _ => hS) (by rfl) ?_); simp only [zq1, zq2, zq3, Act.put, zq4, zq5, zq6]
  refine wpAnyR_one 10 rfl (by kernel_rfl) (fun K hK => ?_)
  go_simp
  go_at_call 27
  refine (there_any (a : Int) n1 _).mono ?_
  rintro e w5 ⟨rfl, rfl⟩
  rw [HT.out]
  refine hK.out _ _ (fun _ => hS) ?_
  clear hK K
  (first | (refine tkR 11 (v := ?_) rfl hS ⟨by rfl, ?_⟩ ?_; rotate_left; intro w h; (try dsimp only at h); first | (go_simp; done) | (go_simp; with_reducible rfl)) | refine skR 11 rfl (fun _ => hS) (by rfl) ?_); simp only [zq1, zq2, zq3, Act.put, zq4, zq5, zq6]
  (first | (refine tkR 12 (v := ?_) rfl hS ⟨by rfl, ?_⟩ ?_; rotate_left; intro w h; (try dsimp only at h); first | (go_simp; done) | (go_simp; with_reducible rfl)) | refine skR 12 rfl (fun _ => hS) (by rfl) ?_); simp only [zq1, zq2, zq3, Act.put, zq4, zq5, zq6]
  refine wpAnyR_done (by kernel_rfl) ?_ _
  clear hS
  have e0 := HX4.out.e.cell 0
  have i2 : w4.cell? ⟨bx + 1, 2, none⟩ = some (.int .u8 k) := HX4.out.i.cell 2
  cases hk : ((1 : Int) == k) with
  | false =>
    have hk1 : ((1 : Int) != k) = true := by unfold bne; rw [hk]; rfl
    have HKQ := Lib.hid hk
    clear hk
    go_wp2_with fail
    go_ret
    exact ⟨ret_int (by rw [HKQ.out]; simp [fitR]), HK4.out⟩
  | true =>
    have hk1 : ((1 : Int) != k) = false := by unfold bne; rw [hk]; rfl
    have HKQ := Lib.hid hk
    clear hk
    go_wp2_with fail
    clear e0 i2
    have hd := (Kept.refl S0 w4).drew
    have HO4q := Lib.hid (HO4.out.kept hd (fun _ _ x => x))
    have HB4q := hd.blk HB4.out (fun x => x)
    have HX5 := HX4.out.kept hd
    have HOB4q := Lib.hid (HOB4.out.kept0 hd)
    have HK5 := Lib.hid (HK4.out.drew)
    have hS : w4.drew.cell? ⟨bx, 1, none⟩ = some (.int .i64 (a : Int)) ∧ w4.drew.cell? ⟨bx + 1, 4, none⟩ = some (.int .u8 wl) ∧ w4.drew.cell? ⟨bx + 1, 4 + 1, none⟩ = some (.int .u32 wn) ∧ w4.drew.cell? ⟨bx + 1, 4 + 2, none⟩ = some (.int .u32 wx) ∧ w4.drew.cell? ⟨bx + 1, 4 + 3, none⟩ = some (.bool wb) := ⟨HX5.e.cell 1, HX5.i.cell 4, HX5.i.cell 5, HX5.i.cell 6, HX5.i.cell 7⟩
    refine wp_region_R (fun w' => w'.cell? ⟨bx, 1, none⟩ = some (.int .i64 (a : Int)) ∧ w'.cell? ⟨bx + 1, 4, none⟩ = some (.int .u8 wl) ∧ w'.cell? ⟨bx + 1, 4 + 1, none⟩ = some (.int .u32 wn) ∧ w'.cell? ⟨bx + 1, 4 + 2, none⟩ = some (.int .u32 wx) ∧ w'.cell? ⟨bx + 1, 4 + 3, none⟩ = some (.bool wb)) [] (by kernel_rfl) ?_
    clear hd HX5 HO4 HB4 HX4 HK4 HOB4 HN4
    generalize w4.drew = w5 at *
    (first | (refine tkR 0 (v := ?_) rfl hS ⟨by rfl, ?_⟩ ?_; rotate_left; intro w h; (try dsimp only at h); first | (go_simp; done) | (go_simp; with_reducible rfl)) | refine skR 0 rfl (fun _ => hS) (by rfl) ?_); simp only [zq1, zq2, Act.put, zq4, zq5, zq6]
    (first | (refine tkR 1 (v := ?_) rfl hS ⟨by rfl, ?_⟩ ?_; rotate_left; intro w h; (try dsimp only at h); first | (go_simp; done) | (go_simp; with_reducible rfl)) | refine skR 1 rfl (fun _ => hS) (by rfl) ?_); simp only [zq1, zq2, zq3, Act.put, zq4, zq5, zq6]
    (first | (refine tkR 2 (v := ?_) rfl hS ⟨by rfl, ?_⟩ ?_; rotate_left; intro w h; (try dsimp only at h); first | (go_simp; done) | (go_simp; with_reducible rfl)) | refine skR 2 rfl (fun _ => hS) (by rfl) ?_); simp only [zq1, zq2, zq3, Act.put, zq4, zq5, zq6]
    (first | (refine tkR 4 (v := ?_) rfl hS ⟨by rfl, ?_⟩ ?_; rotate_left; intro w h; (try dsimp only at h); first | (go_simp; done) | (go_simp; with_reducible rfl)) | refine skR 4 rfl (fun _ => hS) (by rfl) ?_); simp only [zq1, zq2, zq3, Act.put, zq4, zq5, zq6]
    (first | (refine tkR 5 (v := ?_) rfl hS ⟨by rfl, ?_⟩ ?_; rotate_left; intro w h; (try dsimp only at h); first | (go_simp; done) | (go_simp; with_reducible rfl)) | refine skR 5 rfl (fun _ => hS) (by rfl) ?_); simp only [zq1, zq2, zq3, Act.put, zq4, zq5, zq6]
    refine wpAnyR_one 3 rfl (by kernel_rfl) (fun K hK => ?_)
    go_simp
    go_at_call 36
    refine (rtt_any a ob base N tel tmn tx tb tlv tf HB4q HO4q.out (by omega) ha hF HOB4q.out hN).mono ?_
    rintro e w6 ⟨rfl, hk6⟩
    have hS6 : w6.cell? ⟨bx, 1, none⟩ = some (.int .i64 (a : Int)) ∧ w6.cell? ⟨bx + 1, 4, none⟩ = some (.int .u8 wl) ∧ w6.cell? ⟨bx + 1, 4 + 1, none⟩ = some (.int .u32 wn) ∧ w6.cell? ⟨bx + 1, 4 + 2, none⟩ = some (.int .u32 wx) ∧ w6.cell? ⟨bx + 1, 4 + 3, none⟩ = some (.bool wb) := ⟨keep0 hk6 hS.1, keep0 hk6 hS.2.1, keep0 hk6 hS.2.2.1, keep0 hk6 hS.2.2.2.1, keep0 hk6 hS.2.2.2.2⟩
    refine hK.out _ _ (fun _ => hS6) ?_
    clear hK K
    refine wpAnyR_one 6 rfl (by kernel_rfl) (fun K hK => ?_)
    go_simp
    go_at_call 35
    refine (rfittab_any tel (N : Int) tx wl wn wx tb wb _).mono ?_
    rintro e w7 ⟨rfl, hk7⟩
    have hS7 : w7.cell? ⟨bx, 1, none⟩ = some (.int .i64 (a : Int)) ∧ w7.cell? ⟨bx + 1, 4, none⟩ = some (.int .u8 wl) ∧ w7.cell? ⟨bx + 1, 4 + 1, none⟩ = some (.int .u32 wn) ∧ w7.cell? ⟨bx + 1, 4 + 2, none⟩ = some (.int .u32 wx) ∧ w7.cell? ⟨bx + 1, 4 + 3, none⟩ = some (.bool wb) := ⟨keep0 hk7 hS6.1, keep0 hk7 hS6.2.1, keep0 hk7 hS6.2.2.1, keep0 hk7 hS6.2.2.2.1, keep0 hk7 hS6.2.2.2.2⟩
    refine hK.out _ _ (fun _ => hS7) ?_
    clear hK K
    have HK6 := Lib.hid ((HK5.out.then0 hk6).then0 hk7)
    generalize hq : ((tel == wl) && fitLB N tx tb wn wx wb) = okb at *
    have HQ := Lib.hid hq
    (first | (refine tkR 7 (v := ?_) rfl hS7 ⟨by rfl, ?_⟩ ?_; rotate_left; intro w h; (try dsimp only at h); first | (go_simp; done) | (go_simp; with_reducible rfl)) | refine skR 7 rfl (fun _ => hS7) (by rfl) ?_); simp only [zq1, zq2, zq3, Act.put, zq4, zq5, zq6]
    refine wpAnyR_done (by kernel_rfl) ?_ _
    clear hS hS6 hS7 hk6 hk7 HO4q HB4q HOB4q HK5 hq
    cases hok : (okb) with
    | false =>
      have HO2 := Lib.hid (HQ.out.trans hok)
      subst hok
      go_wp2_with fail
      go_ret
      exact ⟨ret_int (by rw [HKQ.out, HO2.out]; rfl), HK6.out⟩
    | true =>
      have HO2 := Lib.hid (HQ.out.trans hok)
      subst hok
      go_wp2_with fail
      go_ret
      exact ⟨ret_int (by rw [HKQ.out, HO2.out]; rfl), HK6.out⟩
set_option maxRecDepth 100000 in
set_option maxHeartbeats 6400000 in
theorem rfits_mem_in (a ob base N : Nat) (tmn tx : Int) (tb : Bool) (tlv : Value) (tf : Nat → UInt8) (hown : Own w B 194 1 AnyV (.slice A2 n2 c2) n2 F) (hn : n2 ≤ 65536) (ha : a < n2) (hF : F a = .pointer (some ⟨ob, 0, none⟩)) (ho : M19.RMemAt w ob base (N * 65536) tmn tx tb tlv tf) (hN : N ≤ 16) (s1 s2 : ByteArray) (k fi wl wn wx : Int) (wb : Bool) (mn mx : Int) (mb : Bool) (gt : Int) (gm : Bool) (P R : Option Addr) (mp mr cp cr : Nat) (hb : Blk w rb 89 (rCells (.slice A0 n0 c0) (.slice A1 n1 c1) (.slice A2 n2 c2) (.slice A3 n3 c3) (.slice A4 n4 c4) (.slice A5 n5 c5) (.slice A6 n6 c6))) :
    Calls Tryz.prog 11 #[.pointer (some ⟨rb, 0, none⟩), .agg #[.int .u8 2, .int .i64 (a : Int)], .agg #[.string s1, .string s2, .int .u8 k, .int .u32 fi, .int .u8 wl, .int .u32 wn, .int .u32 wx, .bool wb, .int .u32 mn, .int .u32 mx, .bool mb, .int .u8 gt, .bool gm], .agg #[.slice P mp cp, .slice R mr cr]] w fun e w' => e = .returned (.int .i64 (fitR ((2 : Int) == k) (fitLB N tx tb mn mx mb))) ∧ Kept S0 w w' := by
  have hx := fbox_new w 2 (a : Int) #[.string s1, .string s2, .int .u8 k, .int .u32 fi, .int .u8 wl, .int .u32 wn, .int .u32 wx, .bool wb, .int .u32 mn, .int .u32 mx, .bool mb, .int .u8 gt, .bool gm] #[.slice P mp cp, .slice R mr cr]
  have hka : Kept S0 w (((w.alloc (.cells #[.int .u8 2, .int .i64 (a : Int)] 25)).alloc (.cells #[.string s1, .string s2, .int .u8 k, .int .u32 fi, .int .u8 wl, .int .u32 wn, .int .u32 wx, .bool wb, .int .u32 mn, .int .u32 mx, .bool mb, .int .u8 gt, .bool gm] 35)).alloc (.cells #[.slice P mp cp, .slice R mr cr] 38)) := (((Kept.refl S0 w).alloc _).alloc _).alloc _
  have hba := hka.blk hb (fun x => x)
  have HT := Lib.hid (show inA (a : Int) (n2 : Int) = true by unfold inA; exact decide_eq_true (by omega))
  have i0 : (0 : Int) ≤ (a : Int) := by omega
  have i1 : (a : Int) < (n2 : Int) := by omega
  have HBA := Lib.hid hba
  have HX := Lib.hid hx
  have HK := Lib.hid hka
  have HO := Lib.hid (hown.kept hka (fun _ _ x => x))
  have HOB := Lib.hid (ho.kept0 hka)
  clear hb hba hx hka hown ho
  go_enter Tryz.func11, Tryz.ntmps11
  go_wp2_with fail
  generalize (((w.alloc (.cells #[.int .u8 2, .int .i64 (a : Int)] 25)).alloc (.cells #[.string s1, .string s2, .int .u8 k, .int .u32 fi, .int .u8 wl, .int .u32 wn, .int .u32 wx, .bool wb, .int .u32 mn, .int .u32 mx, .bool mb, .int .u8 gt, .bool gm] 35)).alloc (.cells #[.slice P mp cp, .slice R mr cr] 38)) = wa at *
  generalize hbx : w.heap.size = bx at *
  refine (rsizes_any HBA.out).mono ?_
  rintro e w2 ⟨rfl, hk2⟩
  have hk3 := hk2.alloc (.cells #[.int .i64 (n0 : Int), .int .i64 (n1 : Int), .int .i64 (n2 : Int), .int .i64 (n3 : Int), .int .i64 (n4 : Int), .int .i64 (n5 : Int), .int .i64 (n6 : Int)] 43)
  have HX3 := Lib.hid (HX.out.kept hk3)
  have HB3 := Lib.hid (hk3.blk HBA.out (fun x => x))
  have HK3 := Lib.hid (HK.out.then0 hk3)
  have HN3 := Lib.hid (Blk.new w2 43 #[.int .i64 (n0 : Int), .int .i64 (n1 : Int), .int .i64 (n2 : Int), .int .i64 (n3 : Int), .int .i64 (n4 : Int), .int .i64 (n5 : Int), .int .i64 (n6 : Int)])
  have HO3 := Lib.hid (HO.out.kept hk3 (fun _ _ x => x))
  have HOB3 := Lib.hid (HOB.out.kept0 hk3)
  clear hk2 hk3 HX HBA HK HO HOB
  go_wp2_with fail
  generalize hab : w2.heap.size = ab at *
  generalize w2.alloc (.cells #[.int .i64 (n0 : Int), .int .i64 (n1 : Int), .int .i64 (n2 : Int), .int .i64 (n3 : Int), .int .i64 (n4 : Int), .int .i64 (n5 : Int), .int .i64 (n6 : Int)] 43) = w3 at *
  have hd := (Kept.refl S0 w3).drew
  have HX4 := Lib.hid (HX3.out.kept hd)
  have HB4 := Lib.hid (hd.blk HB3.out (fun x => x))
  have HK4 := Lib.hid HK3.out.drew
  have HN4 := Lib.hid (hd.blk HN3.out (fun x => x))
  have HO4 := Lib.hid (HO3.out.kept hd (fun _ _ x => x))
  have HOB4 := Lib.hid (HOB3.out.kept0 hd)
  clear hd HX3 HB3 HK3 HN3 HO3 HOB3
  have hS : w3.drew.cell? ⟨bx, 0, none⟩ = some (.int .u8 2) ∧ w3.drew.cell? ⟨bx, 1, none⟩ = some (.int .i64 (a : Int)) ∧ w3.drew.cell? ⟨ab, 2, none⟩ = some (.int .i64 (n2 : Int)) := ⟨HX4.out.e.cell 0, HX4.out.e.cell 1, HN4.out.cell 2⟩
  refine wp_region_R (fun w' => w'.cell? ⟨bx, 0, none⟩ = some (.int .u8 2) ∧ w'.cell? ⟨bx, 1, none⟩ = some (.int .i64 (a : Int)) ∧ w'.cell? ⟨ab, 2, none⟩ = some (.int .i64 (n2 : Int))) [] (by kernel_rfl) ?_
  generalize w3.drew = w4 at *
  (first | (refine tkR 0 (v := ?_) rfl hS ⟨by rfl, ?_⟩ ?_; rotate_left; intro w h; (try dsimp only at h); first | (go_simp; done) | (go_simp; with_reducible rfl)) | refine skR 0 rfl (fun _ => hS) (by rfl) ?_); simp only [zq1, zq2, Act.put, zq4, zq5, zq6]
  (first | (refine tkR 1 (v := ?_) rfl hS ⟨by rfl, ?_⟩ ?_; rotate_left; intro w h; (try dsimp only at h); first | (go_simp; done) | (go_simp; with_reducible rfl)) | refine skR 1 rfl (fun _ => hS) (by rfl) ?_); simp only [zq1, zq2, zq3, Act.put, zq4, zq5, zq6]
  (first | (refine tkR 2 (v := ?_) rfl hS ⟨by rfl, ?_⟩ ?_; rotate_left; intro w h; (try dsimp only at h); first | (go_simp; done) | (go_simp; with_reducible rfl)) | refine skR 2 rfl (fun _ => hS) (by rfl) ?_); simp only [zq1, zq2, zq3, Act.put, zq4, zq5, zq6]
  (first | (refine tkR 3 (v := ?_) rfl hS ⟨by rfl, ?_⟩ ?_; rotate_left; intro w h; (try dsimp only at h); first | (go_simp; done) | (go_simp; with_reducible rfl)) | refine skR 3 rfl (fun _ => hS) (by rfl) ?_); simp only [zq1, zq2, zq3, Act.put, zq4, zq5, zq6]
  (first | (refine tkR 4 (v := ?_) rfl hS ⟨by rfl, ?_⟩ ?_; rotate_left; intro w h; (try dsimp only at h); first | (go_simp; done) | (go_simp; with_reducible rfl)) | refine skR 4 rfl (fun _ => hS) (by rfl) ?_); simp only [zq1, zq2, zq3, Act.put, zq4, zq5, zq6]
  (first | (refine tkR 5 (v := ?_) rfl hS ⟨by rfl, ?_⟩ ?_; rotate_left; intro w h; (try dsimp only at h); first | (go_simp; done) | (go_simp; with_reducible rfl)) | refine skR 5 rfl (fun _ => hS) (by rfl) ?_); simp only [zq1, zq2, zq3, Act.put, zq4, zq5, zq6]
  (first | (refine tkR 6 (v := ?_) rfl hS ⟨by rfl, ?_⟩ ?_; rotate_left; intro w h; (try dsimp only at h); first | (go_simp; done) | (go_simp; with_reducible rfl)) | refine skR 6 rfl (fun _ => hS) (by rfl) ?_); simp only [zq1, zq2, zq3, Act.put, zq4, zq5, zq6]
  (first | (refine tkR 7 (v := ?_) rfl hS ⟨by rfl, ?_⟩ ?_; rotate_left; intro w h; (try dsimp only at h); first | (go_simp; done) | (go_simp; with_reducible rfl)) | refine skR 7 rfl (fun _ => hS) (by rfl) ?_); simp only [zq1, zq2, zq3, Act.put, zq4, zq5, zq6]
  (first | (refine tkR 8 (v := ?_) rfl hS ⟨by rfl, ?_⟩ ?_; rotate_left; intro w h; (try dsimp only at h); first | (go_simp; done) | (go_simp; with_reducible rfl)) | refine skR 8 rfl (fun _ => hS) (by rfl) ?_); simp only [zq1, zq2, zq3, Act.put, zq4, zq5, zq6]
  (first | (refine tkR 9 (v := ?_) rfl hS ⟨by rfl, ?_⟩ ?_; rotate_left; intro w h; (try dsimp only at h); first | (go_simp; done) | (go_simp; with_reducible rfl)) | refine skR 9 rfl (fun _ => hS) (by rfl) ?_); simp only [zq1, zq2, zq3, Act.put, zq4, zq5, zq6]
  refine wpAnyR_one 10 rfl (by kernel_rfl) (fun K hK => ?_)
  go_simp
  go_at_call 27
  refine (there_any (a : Int) n2 _).mono ?_
  rintro e w5 ⟨rfl, rfl⟩
  rw [HT.out]
  refine hK.out _ _ (fun _ => hS) ?_
  clear hK K
  (first | (refine tkR 11 (v := ?_) rfl hS ⟨by rfl, ?_⟩ ?_; rotate_left; intro w h; (try dsimp only at h); first | (go_simp; done) | (go_simp; with_reducible rfl)) | refine skR 11 rfl (fun _ => hS) (by rfl) ?_); simp only [zq1, zq2, zq3, Act.put, zq4, zq5, zq6]
  (first | (refine tkR 12 (v := ?_) rfl hS ⟨by rfl, ?_⟩ ?_; rotate_left; intro w h; (try dsimp only at h); first | (go_simp; done) | (go_simp; with_reducible rfl)) | refine skR 12 rfl (fun _ => hS) (by rfl) ?_); simp only [zq1, zq2, zq3, Act.put, zq4, zq5, zq6]
  refine wpAnyR_done (by kernel_rfl) ?_ _
  clear hS
  have e0 := HX4.out.e.cell 0
  have i2 : w4.cell? ⟨bx + 1, 2, none⟩ = some (.int .u8 k) := HX4.out.i.cell 2
  cases hk : ((2 : Int) == k) with
  | false =>
    have hk1 : ((2 : Int) != k) = true := by unfold bne; rw [hk]; rfl
    have HKQ := Lib.hid hk
    clear hk
    go_wp2_with fail
    go_ret
    exact ⟨ret_int (by rw [HKQ.out]; simp [fitR]), HK4.out⟩
  | true =>
    have hk1 : ((2 : Int) != k) = false := by unfold bne; rw [hk]; rfl
    have HKQ := Lib.hid hk
    clear hk
    go_wp2_with fail
    clear e0 i2
    have hd := (Kept.refl S0 w4).drew
    have HO4q := Lib.hid (HO4.out.kept hd (fun _ _ x => x))
    have HB4q := hd.blk HB4.out (fun x => x)
    have HX5 := HX4.out.kept hd
    have HOB4q := Lib.hid (HOB4.out.kept0 hd)
    have HK5 := Lib.hid (HK4.out.drew)
    have hS : w4.drew.cell? ⟨bx, 1, none⟩ = some (.int .i64 (a : Int)) ∧ w4.drew.cell? ⟨bx + 1, 8, none⟩ = some (.int .u32 mn) ∧ w4.drew.cell? ⟨bx + 1, 8 + 1, none⟩ = some (.int .u32 mx) ∧ w4.drew.cell? ⟨bx + 1, 8 + 2, none⟩ = some (.bool mb) := ⟨HX5.e.cell 1, HX5.i.cell 8, HX5.i.cell 9, HX5.i.cell 10⟩
    refine wp_region_R (fun w' => w'.cell? ⟨bx, 1, none⟩ = some (.int .i64 (a : Int)) ∧ w'.cell? ⟨bx + 1, 8, none⟩ = some (.int .u32 mn) ∧ w'.cell? ⟨bx + 1, 8 + 1, none⟩ = some (.int .u32 mx) ∧ w'.cell? ⟨bx + 1, 8 + 2, none⟩ = some (.bool mb)) [] (by kernel_rfl) ?_
    clear hd HX5 HO4 HB4 HX4 HK4 HOB4 HN4
    generalize w4.drew = w5 at *
    (first | (refine tkR 0 (v := ?_) rfl hS ⟨by rfl, ?_⟩ ?_; rotate_left; intro w h; (try dsimp only at h); first | (go_simp; done) | (go_simp; with_reducible rfl)) | refine skR 0 rfl (fun _ => hS) (by rfl) ?_); simp only [zq1, zq2, Act.put, zq4, zq5, zq6]
    (first | (refine tkR 1 (v := ?_) rfl hS ⟨by rfl, ?_⟩ ?_; rotate_left; intro w h; (try dsimp only at h); first | (go_simp; done) | (go_simp; with_reducible rfl)) | refine skR 1 rfl (fun _ => hS) (by rfl) ?_); simp only [zq1, zq2, zq3, Act.put, zq4, zq5, zq6]
    (first | (refine tkR 2 (v := ?_) rfl hS ⟨by rfl, ?_⟩ ?_; rotate_left; intro w h; (try dsimp only at h); first | (go_simp; done) | (go_simp; with_reducible rfl)) | refine skR 2 rfl (fun _ => hS) (by rfl) ?_); simp only [zq1, zq2, zq3, Act.put, zq4, zq5, zq6]
    (first | (refine tkR 4 (v := ?_) rfl hS ⟨by rfl, ?_⟩ ?_; rotate_left; intro w h; (try dsimp only at h); first | (go_simp; done) | (go_simp; with_reducible rfl)) | refine skR 4 rfl (fun _ => hS) (by rfl) ?_); simp only [zq1, zq2, zq3, Act.put, zq4, zq5, zq6]
    (first | (refine tkR 5 (v := ?_) rfl hS ⟨by rfl, ?_⟩ ?_; rotate_left; intro w h; (try dsimp only at h); first | (go_simp; done) | (go_simp; with_reducible rfl)) | refine skR 5 rfl (fun _ => hS) (by rfl) ?_); simp only [zq1, zq2, zq3, Act.put, zq4, zq5, zq6]
    refine wpAnyR_one 3 rfl (by kernel_rfl) (fun K hK => ?_)
    go_simp
    go_at_call 38
    refine (rmt_any a ob base N tmn tx tb tlv tf HB4q HO4q.out (by omega) ha hF HOB4q.out hN).mono ?_
    rintro e w6 ⟨rfl, hk6⟩
    have hS6 : w6.cell? ⟨bx, 1, none⟩ = some (.int .i64 (a : Int)) ∧ w6.cell? ⟨bx + 1, 8, none⟩ = some (.int .u32 mn) ∧ w6.cell? ⟨bx + 1, 8 + 1, none⟩ = some (.int .u32 mx) ∧ w6.cell? ⟨bx + 1, 8 + 2, none⟩ = some (.bool mb) := ⟨keep0 hk6 hS.1, keep0 hk6 hS.2.1, keep0 hk6 hS.2.2.1, keep0 hk6 hS.2.2.2⟩
    refine hK.out _ _ (fun _ => hS6) ?_
    clear hK K
    refine wpAnyR_one 6 rfl (by kernel_rfl) (fun K hK => ?_)
    go_simp
    go_at_call 37
    refine (rfit_any (N : Int) tx mn mx tb mb _).mono ?_
    rintro e w7 ⟨rfl, hk7⟩
    have hS7 : w7.cell? ⟨bx, 1, none⟩ = some (.int .i64 (a : Int)) ∧ w7.cell? ⟨bx + 1, 8, none⟩ = some (.int .u32 mn) ∧ w7.cell? ⟨bx + 1, 8 + 1, none⟩ = some (.int .u32 mx) ∧ w7.cell? ⟨bx + 1, 8 + 2, none⟩ = some (.bool mb) := ⟨keep0 hk7 hS6.1, keep0 hk7 hS6.2.1, keep0 hk7 hS6.2.2.1, keep0 hk7 hS6.2.2.2⟩
    refine hK.out _ _ (fun _ => hS7) ?_
    clear hK K
    have HK6 := Lib.hid ((HK5.out.then0 hk6).then0 hk7)
    generalize hq : (fitLB N tx tb mn mx mb) = okb at *
    have HQ := Lib.hid hq
    (first | (refine tkR 7 (v := ?_) rfl hS7 ⟨by rfl, ?_⟩ ?_; rotate_left; intro w h; (try dsimp only at h); first | (go_simp; done) | (go_simp; with_reducible rfl)) | refine skR 7 rfl (fun _ => hS7) (by rfl) ?_); simp only [zq1, zq2, zq3, Act.put, zq4, zq5, zq6]
    refine wpAnyR_done (by kernel_rfl) ?_ _
    clear hS hS6 hS7 hk6 hk7 HO4q HB4q HOB4q HK5 hq
    cases hok : (okb) with
    | false =>
      have HO2 := Lib.hid (HQ.out.trans hok)
      subst hok
      go_wp2_with fail
      go_ret
      exact ⟨ret_int (by rw [HKQ.out, HO2.out]; rfl), HK6.out⟩
    | true =>
      have HO2 := Lib.hid (HQ.out.trans hok)
      subst hok
      go_wp2_with fail
      go_ret
      exact ⟨ret_int (by rw [HKQ.out, HO2.out]; rfl), HK6.out⟩
set_option maxRecDepth 100000 in
set_option maxHeartbeats 6400000 in
theorem rfits_glob_in (a : Nat) (gt0 : Int) (gm0 : Bool) (hown : Own w B 109 5 AnyV (.slice A3 n3 c3) n3 F) (hn : n3 ≤ 65536) (ha : a < n3) (f0 : F (a * 5) = .int .u8 gt0) (f1 : F (a * 5 + 1) = .bool gm0) (s1 s2 : ByteArray) (k fi wl wn wx : Int) (wb : Bool) (mn mx : Int) (mb : Bool) (gt : Int) (gm : Bool) (P R : Option Addr) (mp mr cp cr : Nat) (hb : Blk w rb 89 (rCells (.slice A0 n0 c0) (.slice A1 n1 c1) (.slice A2 n2 c2) (.slice A3 n3 c3) (.slice A4 n4 c4) (.slice A5 n5 c5) (.slice A6 n6 c6))) :
    Calls Tryz.prog 11 #[.pointer (some ⟨rb, 0, none⟩), .agg #[.int .u8 3, .int .i64 (a : Int)], .agg #[.string s1, .string s2, .int .u8 k, .int .u32 fi, .int .u8 wl, .int .u32 wn, .int .u32 wx, .bool wb, .int .u32 mn, .int .u32 mx, .bool mb, .int .u8 gt, .bool gm], .agg #[.slice P mp cp, .slice R mr cr]] w fun e w' => e = .returned (.int .i64 (fitR ((3 : Int) == k) ((gt0 == gt) && (gm0 == gm)))) ∧ Kept S0 w w' := by
  have hx := fbox_new w 3 (a : Int) #[.string s1, .string s2, .int .u8 k, .int .u32 fi, .int .u8 wl, .int .u32 wn, .int .u32 wx, .bool wb, .int .u32 mn, .int .u32 mx, .bool mb, .int .u8 gt, .bool gm] #[.slice P mp cp, .slice R mr cr]
  have hka : Kept S0 w (((w.alloc (.cells #[.int .u8 3, .int .i64 (a : Int)] 25)).alloc (.cells #[.string s1, .string s2, .int .u8 k, .int .u32 fi, .int .u8 wl, .int .u32 wn, .int .u32 wx, .bool wb, .int .u32 mn, .int .u32 mx, .bool mb, .int .u8 gt, .bool gm] 35)).alloc (.cells #[.slice P mp cp, .slice R mr cr] 38)) := (((Kept.refl S0 w).alloc _).alloc _).alloc _
  have hba := hka.blk hb (fun x => x)
  obtain ⟨g, fc', hfl, _, _⟩ := hown.is_some (by omega)
  cases hfl
  have HT := Lib.hid (show inA (a : Int) (n3 : Int) = true by unfold inA; exact decide_eq_true (by omega))
  have i0 : (0 : Int) ≤ (a : Int) := by omega
  have i1 : (a : Int) < (n3 : Int) := by omega
  have HBA := Lib.hid hba
  have HX := Lib.hid hx
  have HK := Lib.hid hka
  have HO := Lib.hid (hown.kept hka (fun _ _ x => x))
  have HF0 := Lib.hid f0
  have HF1 := Lib.hid f1
  clear hb hba hx hka hown f0 f1
  go_enter Tryz.func11, Tryz.ntmps11
  go_wp2_with fail
  generalize (((w.alloc (.cells #[.int .u8 3, .int .i64 (a : Int)] 25)).alloc (.cells #[.string s1, .string s2, .int .u8 k, .int .u32 fi, .int .u8 wl, .int .u32 wn, .int .u32 wx, .bool wb, .int .u32 mn, .int .u32 mx, .bool mb, .int .u8 gt, .bool gm] 35)).alloc (.cells #[.slice P mp cp, .slice R mr cr] 38)) = wa at *
  generalize hbx : w.heap.size = bx at *
  refine (rsizes_any HBA.out).mono ?_
  rintro e w2 ⟨rfl, hk2⟩
  have hk3 := hk2.alloc (.cells #[.int .i64 (n0 : Int), .int .i64 (n1 : Int), .int .i64 (n2 : Int), .int .i64 (n3 : Int), .int .i64 (n4 : Int), .int .i64 (n5 : Int), .int .i64 (n6 : Int)] 43)
  have HX3 := Lib.hid (HX.out.kept hk3)
  have HB3 := Lib.hid (hk3.blk HBA.out (fun x => x))
  have HK3 := Lib.hid (HK.out.then0 hk3)
  have HN3 := Lib.hid (Blk.new w2 43 #[.int .i64 (n0 : Int), .int .i64 (n1 : Int), .int .i64 (n2 : Int), .int .i64 (n3 : Int), .int .i64 (n4 : Int), .int .i64 (n5 : Int), .int .i64 (n6 : Int)])
  have HO3 := Lib.hid (HO.out.kept hk3 (fun _ _ x => x))
  clear hk2 hk3 HX HBA HK HO
  go_wp2_with fail
  generalize hab : w2.heap.size = ab at *
  generalize w2.alloc (.cells #[.int .i64 (n0 : Int), .int .i64 (n1 : Int), .int .i64 (n2 : Int), .int .i64 (n3 : Int), .int .i64 (n4 : Int), .int .i64 (n5 : Int), .int .i64 (n6 : Int)] 43) = w3 at *
  have hd := (Kept.refl S0 w3).drew
  have HX4 := Lib.hid (HX3.out.kept hd)
  have HB4 := Lib.hid (hd.blk HB3.out (fun x => x))
  have HK4 := Lib.hid HK3.out.drew
  have HN4 := Lib.hid (hd.blk HN3.out (fun x => x))
  have HO4 := Lib.hid (HO3.out.kept hd (fun _ _ x => x))
  clear hd HX3 HB3 HK3 HN3 HO3
  have hS : w3.drew.cell? ⟨bx, 0, none⟩ = some (.int .u8 3) ∧ w3.drew.cell? ⟨bx, 1, none⟩ = some (.int .i64 (a : Int)) ∧ w3.drew.cell? ⟨ab, 3, none⟩ = some (.int .i64 (n3 : Int)) := ⟨HX4.out.e.cell 0, HX4.out.e.cell 1, HN4.out.cell 3⟩
  refine wp_region_R (fun w' => w'.cell? ⟨bx, 0, none⟩ = some (.int .u8 3) ∧ w'.cell? ⟨bx, 1, none⟩ = some (.int .i64 (a : Int)) ∧ w'.cell? ⟨ab, 3, none⟩ = some (.int .i64 (n3 : Int))) [] (by kernel_rfl) ?_
  generalize w3.drew = w4 at *
  (first | (refine tkR 0 (v := ?_) rfl hS ⟨by rfl, ?_⟩ ?_; rotate_left; intro w h; (try dsimp only at h); first | (go_simp; done) | (go_simp; with_reducible rfl)) | refine skR 0 rfl (fun _ => hS) (by rfl) ?_); simp only [zq1, zq2, Act.put, zq4, zq5, zq6]
  (first | (refine tkR 1 (v := ?_) rfl hS ⟨by rfl, ?_⟩ ?_; rotate_left; intro w h; (try dsimp only at h); first | (go_simp; done) | (go_simp; with_reducible rfl)) | refine skR 1 rfl (fun _ => hS) (by rfl) ?_); simp only [zq1, zq2, zq3, Act.put, zq4, zq5, zq6]
  (first | (refine tkR 2 (v := ?_) rfl hS ⟨by rfl, ?_⟩ ?_; rotate_left; intro w h; (try dsimp only at h); first | (go_simp; done) | (go_simp; with_reducible rfl)) | refine skR 2 rfl (fun _ => hS) (by rfl) ?_); simp only [zq1, zq2, zq3, Act.put, zq4, zq5, zq6]
  (first | (refine tkR 3 (v := ?_) rfl hS ⟨by rfl, ?_⟩ ?_; rotate_left; intro w h; (try dsimp only at h); first | (go_simp; done) | (go_simp; with_reducible rfl)) | refine skR 3 rfl (fun _ => hS) (by rfl) ?_); simp only [zq1, zq2, zq3, Act.put, zq4, zq5, zq6]
  (first | (refine tkR 4 (v := ?_) rfl hS ⟨by rfl, ?_⟩ ?_; rotate_left; intro w h; (try dsimp only at h); first | (go_simp; done) | (go_simp; with_reducible rfl)) | refine skR 4 rfl (fun _ => hS) (by rfl) ?_); simp only [zq1, zq2, zq3, Act.put, zq4, zq5, zq6]
  (first | (refine tkR 5 (v := ?_) rfl hS ⟨by rfl, ?_⟩ ?_; rotate_left; intro w h; (try dsimp only at h); first | (go_simp; done) | (go_simp; with_reducible rfl)) | refine skR 5 rfl (fun _ => hS) (by rfl) ?_); simp only [zq1, zq2, zq3, Act.put, zq4, zq5, zq6]
  (first | (refine tkR 6 (v := ?_) rfl hS ⟨by rfl, ?_⟩ ?_; rotate_left; intro w h; (try dsimp only at h); first | (go_simp; done) | (go_simp; with_reducible rfl)) | refine skR 6 rfl (fun _ => hS) (by rfl) ?_); simp only [zq1, zq2, zq3, Act.put, zq4, zq5, zq6]
  (first | (refine tkR 7 (v := ?_) rfl hS ⟨by rfl, ?_⟩ ?_; rotate_left; intro w h; (try dsimp only at h); first | (go_simp; done) | (go_simp; with_reducible rfl)) | refine skR 7 rfl (fun _ => hS) (by rfl) ?_); simp only [zq1, zq2, zq3, Act.put, zq4, zq5, zq6]
  (first | (refine tkR 8 (v := ?_) rfl hS ⟨by rfl, ?_⟩ ?_; rotate_left; intro w h; (try dsimp only at h); first | (go_simp; done) | (go_simp; with_reducible rfl)) | refine skR 8 rfl (fun _ => hS) (by rfl) ?_); simp only [zq1, zq2, zq3, Act.put, zq4, zq5, zq6]
  (first | (refine tkR 9 (v := ?_) rfl hS ⟨by rfl, ?_⟩ ?_; rotate_left; intro w h; (try dsimp only at h); first | (go_simp; done) | (go_simp; with_reducible rfl)) | refine skR 9 rfl (fun _ => hS) (by rfl) ?_); simp only [zq1, zq2, zq3, Act.put, zq4, zq5, zq6]
  refine wpAnyR_one 10 rfl (by kernel_rfl) (fun K hK => ?_)
  go_simp
  go_at_call 27
  refine (there_any (a : Int) n3 _).mono ?_
  rintro e w5 ⟨rfl, rfl⟩
  rw [HT.out]
  refine hK.out _ _ (fun _ => hS) ?_
  clear hK K
  (first | (refine tkR 11 (v := ?_) rfl hS ⟨by rfl, ?_⟩ ?_; rotate_left; intro w h; (try dsimp only at h); first | (go_simp; done) | (go_simp; with_reducible rfl)) | refine skR 11 rfl (fun _ => hS) (by rfl) ?_); simp only [zq1, zq2, zq3, Act.put, zq4, zq5, zq6]
  (first | (refine tkR 12 (v := ?_) rfl hS ⟨by rfl, ?_⟩ ?_; rotate_left; intro w h; (try dsimp only at h); first | (go_simp; done) | (go_simp; with_reducible rfl)) | refine skR 12 rfl (fun _ => hS) (by rfl) ?_); simp only [zq1, zq2, zq3, Act.put, zq4, zq5, zq6]
  refine wpAnyR_done (by kernel_rfl) ?_ _
  clear hS
  have e0 := HX4.out.e.cell 0
  have i2 : w4.cell? ⟨bx + 1, 2, none⟩ = some (.int .u8 k) := HX4.out.i.cell 2
  cases hk : ((3 : Int) == k) with
  | false =>
    have hk1 : ((3 : Int) != k) = true := by unfold bne; rw [hk]; rfl
    have HKQ := Lib.hid hk
    clear hk
    go_wp2_with fail
    go_ret
    exact ⟨ret_int (by rw [HKQ.out]; simp [fitR]), HK4.out⟩
  | true =>
    have hk1 : ((3 : Int) != k) = false := by unfold bne; rw [hk]; rfl
    have HKQ := Lib.hid hk
    clear hk
    go_wp2_with fail
    clear e0 i2
    have hd := (Kept.refl S0 w4).drew
    have HO5 := HO4.out.kept hd (fun _ _ x => x)
    have HB5 := hd.blk HB4.out (fun x => x)
    have HX5 := HX4.out.kept hd
    have HK6 := Lib.hid (HK4.out.drew)
    have hS : w4.drew.cell? ⟨rb, 3, none⟩ = some (.slice (some ⟨g, 0, none⟩) n3 c3) ∧ w4.drew.cell? ⟨bx, 1, none⟩ = some (.int .i64 (a : Int)) ∧ w4.drew.cell? ⟨g, a * 5, none⟩ = some (.int .u8 gt0) ∧ w4.drew.cell? ⟨g, a * 5 + 1, none⟩ = some (.bool gm0) ∧ w4.drew.cell? ⟨bx + 1, 11, none⟩ = some (.int .u8 gt) ∧ w4.drew.cell? ⟨bx + 1, 11 + 1, none⟩ = some (.bool gm) := ⟨HB5.cell 3, HX5.e.cell 1, (HO5.rowcell (j := a * 5) (by omega)).trans (congrArg some HF0.out), (HO5.rowcell (j := a * 5 + 1) (by omega)).trans (congrArg some HF1.out), HX5.i.cell 11, HX5.i.cell 12⟩
    refine wp_region_R (fun w' => w'.cell? ⟨rb, 3, none⟩ = some (.slice (some ⟨g, 0, none⟩) n3 c3) ∧ w'.cell? ⟨bx, 1, none⟩ = some (.int .i64 (a : Int)) ∧ w'.cell? ⟨g, a * 5, none⟩ = some (.int .u8 gt0) ∧ w'.cell? ⟨g, a * 5 + 1, none⟩ = some (.bool gm0) ∧ w'.cell? ⟨bx + 1, 11, none⟩ = some (.int .u8 gt) ∧ w'.cell? ⟨bx + 1, 11 + 1, none⟩ = some (.bool gm)) [] (by kernel_rfl) ?_
    clear hd HO5 HB5 HX5 HO4 HB4 HX4 HK4 HN4
    generalize w4.drew = w5 at *
    by_cases hg : gt0 = gt
    · subst hg
      cases gm0 <;> cases gm
      all_goals
        (first | (refine tkR 0 (v := ?_) rfl hS ⟨by rfl, ?_⟩ ?_; rotate_left; intro w h; (try dsimp only at h); first | (go_simp; done) | (go_simp; with_reducible rfl)) | refine skR 0 rfl (fun _ => hS) (by rfl) ?_); simp only [zq1, zq2, Act.put, zq4, zq5, zq6]
        (first | (refine tkR 1 (v := ?_) rfl hS ⟨by rfl, ?_⟩ ?_; rotate_left; intro w h; (try dsimp only at h); first | (go_simp; done) | (go_simp; with_reducible rfl)) | refine skR 1 rfl (fun _ => hS) (by rfl) ?_); simp only [zq1, zq2, zq3, Act.put, zq4, zq5, zq6]
        (first | (refine tkR 2 (v := ?_) rfl hS ⟨by rfl, ?_⟩ ?_; rotate_left; intro w h; (try dsimp only at h); first | (go_simp; done) | (go_simp; with_reducible rfl)) | refine skR 2 rfl (fun _ => hS) (by rfl) ?_); simp only [zq1, zq2, zq3, Act.put, zq4, zq5, zq6]
        (first | (refine tkR 3 (v := ?_) rfl hS ⟨by rfl, ?_⟩ ?_; rotate_left; intro w h; (try dsimp only at h); first | (go_simp; done) | (go_simp; with_reducible rfl)) | refine skR 3 rfl (fun _ => hS) (by rfl) ?_); simp only [zq1, zq2, zq3, Act.put, zq4, zq5, zq6]
        (first | (refine tkR 4 (v := ?_) rfl hS ⟨by rfl, ?_⟩ ?_; rotate_left; intro w h; (try dsimp only at h); first | (go_simp; done) | (go_simp; with_reducible rfl)) | refine skR 4 rfl (fun _ => hS) (by rfl) ?_); simp only [zq1, zq2, zq3, Act.put, zq4, zq5, zq6]
        (first | (refine tkR 5 (v := ?_) rfl hS ⟨by rfl, ?_⟩ ?_; rotate_left; intro w h; (try dsimp only at h); first | (go_simp; done) | (go_simp; with_reducible rfl)) | refine skR 5 rfl (fun _ => hS) (by rfl) ?_); simp only [zq1, zq2, zq3, Act.put, zq4, zq5, zq6]
        (first | (refine tkR 6 (v := ?_) rfl hS ⟨by rfl, ?_⟩ ?_; rotate_left; intro w h; (try dsimp only at h); first | (go_simp; done) | (go_simp; with_reducible rfl)) | refine skR 6 rfl (fun _ => hS) (by rfl) ?_); simp only [zq1, zq2, zq3, Act.put, zq4, zq5, zq6]
        (first | (refine tkR 7 (v := ?_) rfl hS ⟨by rfl, ?_⟩ ?_; rotate_left; intro w h; (try dsimp only at h); first | (go_simp; done) | (go_simp; with_reducible rfl)) | refine skR 7 rfl (fun _ => hS) (by rfl) ?_); simp only [zq1, zq2, zq3, Act.put, zq4, zq5, zq6]
        (first | (refine tkR 8 (v := ?_) rfl hS ⟨by rfl, ?_⟩ ?_; rotate_left; intro w h; (try dsimp only at h); first | (go_simp; done) | (go_simp; with_reducible rfl)) | refine skR 8 rfl (fun _ => hS) (by rfl) ?_); simp only [zq1, zq2, zq3, Act.put, zq4, zq5, zq6]
        (first | (refine tkR 9 (v := ?_) rfl hS ⟨by rfl, ?_⟩ ?_; rotate_left; intro w h; (try dsimp only at h); first | (go_simp; done) | (go_simp; with_reducible rfl)) | refine skR 9 rfl (fun _ => hS) (by rfl) ?_); simp only [zq1, zq2, zq3, Act.put, zq4, zq5, zq6]
        (first | (refine tkR 10 (v := ?_) rfl hS ⟨by rfl, ?_⟩ ?_; rotate_left; intro w h; (try dsimp only at h); first | (go_simp; done) | (go_simp; with_reducible rfl)) | refine skR 10 rfl (fun _ => hS) (by rfl) ?_); simp only [zq1, zq2, zq3, Act.put, zq4, zq5, zq6]
        (first | (refine tkR 11 (v := ?_) rfl hS ⟨by rfl, ?_⟩ ?_; rotate_left; intro w h; (try dsimp only at h); first | (go_simp; done) | (go_simp; with_reducible rfl)) | refine skR 11 rfl (fun _ => hS) (by rfl) ?_); simp only [zq1, zq2, zq3, Act.put, zq4, zq5, zq6]
        (first | (refine tkR 12 (v := ?_) rfl hS ⟨by rfl, ?_⟩ ?_; rotate_left; intro w h; (try dsimp only at h); first | (go_simp; done) | (go_simp; with_reducible rfl)) | refine skR 12 rfl (fun _ => hS) (by rfl) ?_); simp only [zq1, zq2, zq3, Act.put, zq4, zq5, zq6]
        refine wpAnyR_done (by kernel_rfl) ?_ _
        clear hS
        go_wp2_with fail
        go_ret
        exact ⟨ret_int (by rw [HKQ.out]; simp [fitR]), HK6.out⟩
    · have hg1 : (gt0 = gt) = False := eq_false hg
      have hg2 : (gt0 == gt) = false := beq_eq_false_iff_ne.2 hg
      have HG := Lib.hid hg2
      clear hg
      (first | (refine tkR 0 (v := ?_) rfl hS ⟨by rfl, ?_⟩ ?_; rotate_left; intro w h; (try dsimp only at h); first | (go_simp; done) | (go_simp; with_reducible rfl)) | refine skR 0 rfl (fun _ => hS) (by rfl) ?_); simp only [zq1, zq2, Act.put, zq4, zq5, zq6]
      (first | (refine tkR 1 (v := ?_) rfl hS ⟨by rfl, ?_⟩ ?_; rotate_left; intro w h; (try dsimp only at h); first | (go_simp; done) | (go_simp; with_reducible rfl)) | refine skR 1 rfl (fun _ => hS) (by rfl) ?_); simp only [zq1, zq2, zq3, Act.put, zq4, zq5, zq6]
      (first | (refine tkR 2 (v := ?_) rfl hS ⟨by rfl, ?_⟩ ?_; rotate_left; intro w h; (try dsimp only at h); first | (go_simp; done) | (go_simp; with_reducible rfl)) | refine skR 2 rfl (fun _ => hS) (by rfl) ?_); simp only [zq1, zq2, zq3, Act.put, zq4, zq5, zq6]
      (first | (refine tkR 3 (v := ?_) rfl hS ⟨by rfl, ?_⟩ ?_; rotate_left; intro w h; (try dsimp only at h); first | (go_simp; done) | (go_simp; with_reducible rfl)) | refine skR 3 rfl (fun _ => hS) (by rfl) ?_); simp only [zq1, zq2, zq3, Act.put, zq4, zq5, zq6]
      (first | (refine tkR 4 (v := ?_) rfl hS ⟨by rfl, ?_⟩ ?_; rotate_left; intro w h; (try dsimp only at h); first | (go_simp; done) | (go_simp; with_reducible rfl)) | refine skR 4 rfl (fun _ => hS) (by rfl) ?_); simp only [zq1, zq2, zq3, Act.put, zq4, zq5, zq6]
      (first | (refine tkR 5 (v := ?_) rfl hS ⟨by rfl, ?_⟩ ?_; rotate_left; intro w h; (try dsimp only at h); first | (go_simp; done) | (go_simp; with_reducible rfl)) | refine skR 5 rfl (fun _ => hS) (by rfl) ?_); simp only [zq1, zq2, zq3, Act.put, zq4, zq5, zq6]
      (first | (refine tkR 6 (v := ?_) rfl hS ⟨by rfl, ?_⟩ ?_; rotate_left; intro w h; (try dsimp only at h); first | (go_simp; done) | (go_simp; with_reducible rfl)) | refine skR 6 rfl (fun _ => hS) (by rfl) ?_); simp only [zq1, zq2, zq3, Act.put, zq4, zq5, zq6]
      (first | (refine tkR 7 (v := ?_) rfl hS ⟨by rfl, ?_⟩ ?_; rotate_left; intro w h; (try dsimp only at h); first | (go_simp; done) | (go_simp; with_reducible rfl)) | refine skR 7 rfl (fun _ => hS) (by rfl) ?_); simp only [zq1, zq2, zq3, Act.put, zq4, zq5, zq6]
      (first | (refine tkR 8 (v := ?_) rfl hS ⟨by rfl, ?_⟩ ?_; rotate_left; intro w h; (try dsimp only at h); first | (go_simp; done) | (go_simp; with_reducible rfl)) | refine skR 8 rfl (fun _ => hS) (by rfl) ?_); simp only [zq1, zq2, zq3, Act.put, zq4, zq5, zq6]
      (first | (refine tkR 9 (v := ?_) rfl hS ⟨by rfl, ?_⟩ ?_; rotate_left; intro w h; (try dsimp only at h); first | (go_simp; done) | (go_simp; with_reducible rfl)) | refine skR 9 rfl (fun _ => hS) (by rfl) ?_); simp only [zq1, zq2, zq3, Act.put, zq4, zq5, zq6]
      (first | (refine tkR 10 (v := ?_) rfl hS ⟨by rfl, ?_⟩ ?_; rotate_left; intro w h; (try dsimp only at h); first | (go_simp; done) | (go_simp; with_reducible rfl)) | refine skR 10 rfl (fun _ => hS) (by rfl) ?_); simp only [zq1, zq2, zq3, Act.put, zq4, zq5, zq6]
      (first | (refine tkR 11 (v := ?_) rfl hS ⟨by rfl, ?_⟩ ?_; rotate_left; intro w h; (try dsimp only at h); first | (go_simp; done) | (go_simp; with_reducible rfl)) | refine skR 11 rfl (fun _ => hS) (by rfl) ?_); simp only [zq1, zq2, zq3, Act.put, zq4, zq5, zq6]
      (first | (refine tkR 12 (v := ?_) rfl hS ⟨by rfl, ?_⟩ ?_; rotate_left; intro w h; (try dsimp only at h); first | (go_simp; done) | (go_simp; with_reducible rfl)) | refine skR 12 rfl (fun _ => hS) (by rfl) ?_); simp only [zq1, zq2, zq3, Act.put, zq4, zq5, zq6]
      refine wpAnyR_done (by kernel_rfl) ?_ _
      clear hS
      go_wp2_with fail
      go_ret
      exact ⟨ret_int (by rw [HKQ.out, HG.out]; simp [fitR]), HK6.out⟩
end
end Go.Proofs.YtlnkdnmeikpckaaGreat
