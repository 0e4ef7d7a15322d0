/- Contracts of the statements' both: Get, Set, Fill, Grow. No condition. -/
import Derived.Test.YtpeekldngelkkaaTabR
import Derived.Test.YtpeekldngelkkaaTabF
import Derived.Test.YtpeekldngelkkaaTabG
namespace Go.Proofs.Ytpeekldngelkkaa
open Go.RowKit

section
variable {w : World} {B tp rp : Nat} {mn : Int} {lt lr : Value} {s : PT}
variable (po pr : Value) (s2 o2 : Bool) (a fr k : Nat) (x : V3) (L : Option Addr) (m c : Nat)

set_option maxHeartbeats 1600000 in
theorem both_get (h : PairAt w B tp rp mn lt lr s) (ha : a ≤ 4294967295) (d : Int) (hd : d = 0) :
    Calls Try.prog 24 #[.pointer (some ⟨tp, 0, none⟩), po, .pointer (some ⟨rp, 0, none⟩), pr, .agg #[.int .i64 d, .bool s2, .bool o2, .int .u32 (a : Int), .int .u32 (fr : Int), .int .u32 (k : Int), .int .u8 x.t, .int .u64 x.lo, .int .u64 x.hi, .slice L m c]] w fun e w' => e = .returned (.bool true) ∧ Kept S0 w w' := by
  subst hd
  have hka : Kept S0 w (w.alloc (.cells #[.int .i64 0, .bool s2, .bool o2, .int .u32 (a : Int), .int .u32 (fr : Int), .int .u32 (k : Int), .int .u8 x.t, .int .u64 x.lo, .int .u64 x.hi, .slice L m c] 62)) := (Kept.refl S0 w).alloc _
  have h1 := h.kept0 hka
  have hB := Blk.new w 62 #[.int .i64 0, .bool s2, .bool o2, .int .u32 (a : Int), .int .u32 (fr : Int), .int .u32 (k : Int), .int .u8 x.t, .int .u64 x.lo, .int .u64 x.hi, .slice L m c]
  have r0 := hB.cell 0
  have r3 := hB.cell 3
  have H1 := Lib.hid h1
  have HB := Lib.hid hB
  have e1 : ∀ z : Int, (z == z) = true := fun z => beq_self_eq_true z
  clear h h1 hB
  by_cases hk : a < s.n
  · go_enter Try.func24, Try.ntmps24
    go_wp2_with fail
    refine (get_in a H1.out.tab H1.out.hn hk).mono ?_
    rintro e w1 ⟨rfl, hk1⟩
    have t3 := keep0 (hk1.alloc (.cells #[.int .u8 (s.f a).t, .int .u64 (s.f a).lo, .int .u64 (s.f a).hi] 43)) r3
    have hv1 := Blk.new w1 43 #[.int .u8 (s.f a).t, .int .u64 (s.f a).lo, .int .u64 (s.f a).hi]
    have HR1 := Lib.hid (H1.out.ref.kept0 (hk1.alloc (.cells #[.int .u8 (s.f a).t, .int .u64 (s.f a).lo, .int .u64 (s.f a).hi] 43)))
    have HK1 := Lib.hid (hka.then0 (hk1.alloc (.cells #[.int .u8 (s.f a).t, .int .u64 (s.f a).lo, .int .u64 (s.f a).hi] 43)))
    clear r0 r3 hk1 hka
    go_wp2_with fail
    refine (rget_in a HR1.out H1.out.hn hk).mono ?_
    rintro e w2 ⟨rfl, hk2⟩
    have hv2 := (hk2.blk hv1 (fun x => x)).alloc (.cells #[.int .u8 (s.f a).t, .int .u64 (s.f a).lo, .int .u64 (s.f a).hi] 43)
    have v0 := hv2.cell 0
    have v1 := hv2.cell 1
    have v2 := hv2.cell 2
    have HK2 := Lib.hid (HK1.out.then0 (hk2.alloc (.cells #[.int .u8 (s.f a).t, .int .u64 (s.f a).lo, .int .u64 (s.f a).hi] 43)))
    clear t3 hv1 hv2 hk2
    go_wp2_with fail
    go_ret
    exact ⟨rfl, HK2.out⟩
  · go_enter Try.func24, Try.ntmps24
    go_wp2_with fail
    refine (get_out a H1.out.tab H1.out.hn (by omega) ha).mono ?_
    rintro e w1 ⟨rfl, hk1⟩
    have t3 := keep0 (hk1.alloc (.cells #[.int .u8 0, .int .u64 0, .int .u64 0] 43)) r3
    have hv1 := Blk.new w1 43 #[.int .u8 0, .int .u64 0, .int .u64 0]
    have HR1 := Lib.hid (H1.out.ref.kept0 (hk1.alloc (.cells #[.int .u8 0, .int .u64 0, .int .u64 0] 43)))
    have HK1 := Lib.hid (hka.then0 (hk1.alloc (.cells #[.int .u8 0, .int .u64 0, .int .u64 0] 43)))
    clear r0 r3 hk1 hka
    go_wp2_with fail
    refine (rget_out a HR1.out H1.out.hn (by omega) ha).mono ?_
    rintro e w2 ⟨rfl, hk2⟩
    have hv2 := (hk2.blk hv1 (fun x => x)).alloc (.cells #[.int .u8 0, .int .u64 0, .int .u64 0] 43)
    have v0 := hv2.cell 0
    have v1 := hv2.cell 1
    have v2 := hv2.cell 2
    have HK2 := Lib.hid (HK1.out.then0 (hk2.alloc (.cells #[.int .u8 0, .int .u64 0, .int .u64 0] 43)))
    clear t3 hv1 hv2 hk2
    go_wp2_with fail
    go_ret
    exact ⟨rfl, HK2.out⟩
end
end Go.Proofs.Ytpeekldngelkkaa
