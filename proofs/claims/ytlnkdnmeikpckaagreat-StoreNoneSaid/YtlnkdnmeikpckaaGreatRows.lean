/-
  No cell of these rows narrows 'for every input' (looked for: loops, veiled, ifaces, maps, wideKeys, modest, calm, conditions, laid).
  DERIVED. THE GIVEN ROWS OF THIS SEAT. 5 by the template 'for every input the law returns true; each argument reads behind the call as it read before'; 0 by the template 'total and deterministic' (their statements: YtlnkdnmeikpckaaGreatTotals.lean).
  GIVEN WITH THE SEED: the statements are not yours to turn. If you find one false, say at which input.
  Laid BY PROGRAM, IN A SANDBOX (cutbox-rows.mjs): the forced cells as the released guide's own fill.sh prints them over the translation 6dc3a0b639b837de… (all of the seat's roots in one cut). By AI agents, Wed Nov 11 2026. No macro, syntax, notation, axiom, sorry.
-/
import Derived.Test.YtlnkdnmeikpckaaGreatChecked
import GoSem.Claim
import GoSem.ClaimJoined
import GoSem.ClaimMapViews
import Derived.JoinedTies
import Derived.KernelRfl
namespace Go.Proofs.YtlnkdnmeikpckaaGreat
/- THE CELL 'sum', in the pinned program and in every row, IS THE sha256 OF THE DUMP (.gsa) THAT YtlnkdnmeikpckaaGreatProg.lean LOADS. Nothing in Lean hashes anything: it is a label: what it is worth is what the hold of that sum in a sandbox is worth. -/
noncomputable def Tryz.pinned : Pinned := { name := "ytlnkdnmeikpckaagreat", sum := "6dc3a0b639b837deb14de48fc8e3615f06e7584e1ab9406b02bae8f7f989c23d", checked := Tryz.checked }
namespace Rows
def none {H : Type} : Left H := { results := [], args := [] }

/-- 'jacquardlaw21.StoreFits': WHATEVER THE INPUT: true; the input reads as it did. -/
def storeFitsSpec : ChangeSpec := { name := "storeFits", fn := fun _ => fun
  | [d1, d2, d3, d4] => { results := [.lit (.bool true)], args := [d1, d2, d3, d4] }
  | _ => none }
def storeFitsRow : OpenClaim := { program := "ytlnkdnmeikpckaagreat", sum := "6dc3a0b639b837deb14de48fc8e3615f06e7584e1ab9406b02bae8f7f989c23d", func := "jacquard/jacquardlaw21.StoreFits", spec := "storeFits", unfollowed := true, recurses := true, apart := false }
def StoreFitsSaid : Prop := storeFitsRow.holds Tryz.pinned (OpenSpec.ofChange storeFitsSpec)

/-- ITS FALSE NEIGHBOUR: 'it returns false'. Refute it at one input. -/
def storeFitsWrong : ChangeSpec := { name := "storeFits", fn := fun _ => fun
  | [d1, d2, d3, d4] => { results := [.lit (.bool false)], args := [d1, d2, d3, d4] }
  | _ => none }
def StoreFitsWrongFalsely : Prop := storeFitsRow.holds Tryz.pinned (OpenSpec.ofChange storeFitsWrong)

/-- 'jacquardlaw21.StoreOwn': WHATEVER THE INPUT: true; the input reads as it did. -/
def storeOwnSpec : ChangeSpec := { name := "storeOwn", fn := fun _ => fun
  | [d1, d2] => { results := [.lit (.bool true)], args := [d1, d2] }
  | _ => none }
def storeOwnRow : OpenClaim := { program := "ytlnkdnmeikpckaagreat", sum := "6dc3a0b639b837deb14de48fc8e3615f06e7584e1ab9406b02bae8f7f989c23d", func := "jacquard/jacquardlaw21.StoreOwn", spec := "storeOwn", unfollowed := true, recurses := true, apart := false }
def StoreOwnSaid : Prop := storeOwnRow.holds Tryz.pinned (OpenSpec.ofChange storeOwnSpec)

/-- ITS FALSE NEIGHBOUR: 'it returns false'. Refute it at one input. -/
def storeOwnWrong : ChangeSpec := { name := "storeOwn", fn := fun _ => fun
  | [d1, d2] => { results := [.lit (.bool false)], args := [d1, d2] }
  | _ => none }
def StoreOwnWrongFalsely : Prop := storeOwnRow.holds Tryz.pinned (OpenSpec.ofChange storeOwnWrong)

/-- 'jacquardlaw21.StoreTyped': WHATEVER THE INPUT: true; the input reads as it did. -/
def storeTypedSpec : ChangeSpec := { name := "storeTyped", fn := fun _ => fun
  | [d] => { results := [.lit (.bool true)], args := [d] }
  | _ => none }
def storeTypedRow : OpenClaim := { program := "ytlnkdnmeikpckaagreat", sum := "6dc3a0b639b837deb14de48fc8e3615f06e7584e1ab9406b02bae8f7f989c23d", func := "jacquard/jacquardlaw21.StoreTyped", spec := "storeTyped", unfollowed := true, recurses := true, apart := false }
def StoreTypedSaid : Prop := storeTypedRow.holds Tryz.pinned (OpenSpec.ofChange storeTypedSpec)

/-- ITS FALSE NEIGHBOUR: 'it returns false'. Refute it at one input. -/
def storeTypedWrong : ChangeSpec := { name := "storeTyped", fn := fun _ => fun
  | [d] => { results := [.lit (.bool false)], args := [d] }
  | _ => none }
def StoreTypedWrongFalsely : Prop := storeTypedRow.holds Tryz.pinned (OpenSpec.ofChange storeTypedWrong)

/-- 'jacquardlaw21.StoreStays': WHATEVER THE INPUT: true; the input reads as it did. -/
def storeStaysSpec : ChangeSpec := { name := "storeStays", fn := fun _ => fun
  | [d1, d2] => { results := [.lit (.bool true)], args := [d1, d2] }
  | _ => none }
def storeStaysRow : OpenClaim := { program := "ytlnkdnmeikpckaagreat", sum := "6dc3a0b639b837deb14de48fc8e3615f06e7584e1ab9406b02bae8f7f989c23d", func := "jacquard/jacquardlaw21.StoreStays", spec := "storeStays", unfollowed := true, recurses := true, apart := false }
def StoreStaysSaid : Prop := storeStaysRow.holds Tryz.pinned (OpenSpec.ofChange storeStaysSpec)

/-- ITS FALSE NEIGHBOUR: 'it returns false'. Refute it at one input. -/
def storeStaysWrong : ChangeSpec := { name := "storeStays", fn := fun _ => fun
  | [d1, d2] => { results := [.lit (.bool false)], args := [d1, d2] }
  | _ => none }
def StoreStaysWrongFalsely : Prop := storeStaysRow.holds Tryz.pinned (OpenSpec.ofChange storeStaysWrong)

/-- 'jacquardlaw21.StoreNone': WHATEVER THE INPUT: true; the input reads as it did. -/
def storeNoneSpec : ChangeSpec := { name := "storeNone", fn := fun _ => fun
  | [d1, d2] => { results := [.lit (.bool true)], args := [d1, d2] }
  | _ => none }
def storeNoneRow : OpenClaim := { program := "ytlnkdnmeikpckaagreat", sum := "6dc3a0b639b837deb14de48fc8e3615f06e7584e1ab9406b02bae8f7f989c23d", func := "jacquard/jacquardlaw21.StoreNone", spec := "storeNone", unfollowed := true, recurses := true, apart := false }
def StoreNoneSaid : Prop := storeNoneRow.holds Tryz.pinned (OpenSpec.ofChange storeNoneSpec)

/-- ITS FALSE NEIGHBOUR: 'it returns false'. Refute it at one input. -/
def storeNoneWrong : ChangeSpec := { name := "storeNone", fn := fun _ => fun
  | [d1, d2] => { results := [.lit (.bool false)], args := [d1, d2] }
  | _ => none }
def StoreNoneWrongFalsely : Prop := storeNoneRow.holds Tryz.pinned (OpenSpec.ofChange storeNoneWrong)

/- THE SECOND FORM. 'bulk': how many values and letters a reading holds, each counted each time it is reached (what is shared counts as often as it is met; a slice's spare places count too). A statement '..UptoSaid' is the law's where the arguments, and the package variables that the reading takes, are together of bulk at most 1048576: NARROWER than '..Said'. Prove '..Said' where nothing that the law and all that it calls make is longer than what came in: it says more and counts as full. Else prove '..UptoSaid'. A law counts once. -/
mutual
def uptoBulk {H : Type} : DataW H → Nat
  | .lit (.string bytes) => bytes.length + 1
  | .lit _ => 1
  | .nil => 1
  | .ptr d => uptoBulk d + 1
  | .slice elems spare => uptoBulkAll elems + uptoBulkAll spare + 1
  | .agg parts => uptoBulkAll parts + 1
  | .iface _ d => uptoBulk d + 1
  | .map entries => uptoBulkEntries entries + 1
  | .held _ => 1
def uptoBulkAll {H : Type} : List (DataW H) → Nat
  | [] => 0
  | d :: r => uptoBulk d + uptoBulkAll r
def uptoBulkEntries {H : Type} : List (Lit × DataW H) → Nat
  | [] => 0
  | x :: r => uptoBulkEntry x + uptoBulkEntries r
def uptoBulkEntry {H : Type} : Lit × DataW H → Nat
  | (.string bytes, d) => bytes.length + uptoBulk d + 1
  | (_, d) => uptoBulk d + 1
 end
def uptoSmall : (H : Type) → List (DataW H) → Bool := fun _ ds => decide (uptoBulkAll ds ≤ 1048576)
def OpenSpec.upto (s : _root_.Go.ChangeSpec) : _root_.Go.OpenSpec := { _root_.Go.OpenSpec.ofChange s with cond := some uptoSmall }

/-- 'jacquardlaw21.StoreFits', WHERE WHAT IT READS IS OF BULK AT MOST 1048576: true; the input reads as it did. -/
def storeFitsUptoRow : OpenClaim := { program := "ytlnkdnmeikpckaagreat", sum := "6dc3a0b639b837deb14de48fc8e3615f06e7584e1ab9406b02bae8f7f989c23d", func := "jacquard/jacquardlaw21.StoreFits", spec := "storeFits", unfollowed := true, recurses := true, apart := false, narrowed := true }
def StoreFitsUptoSaid : Prop := storeFitsUptoRow.holds Tryz.pinned (OpenSpec.upto storeFitsSpec)

/-- 'jacquardlaw21.StoreOwn', WHERE WHAT IT READS IS OF BULK AT MOST 1048576: true; the input reads as it did. -/
def storeOwnUptoRow : OpenClaim := { program := "ytlnkdnmeikpckaagreat", sum := "6dc3a0b639b837deb14de48fc8e3615f06e7584e1ab9406b02bae8f7f989c23d", func := "jacquard/jacquardlaw21.StoreOwn", spec := "storeOwn", unfollowed := true, recurses := true, apart := false, narrowed := true }
def StoreOwnUptoSaid : Prop := storeOwnUptoRow.holds Tryz.pinned (OpenSpec.upto storeOwnSpec)

/-- 'jacquardlaw21.StoreTyped', WHERE WHAT IT READS IS OF BULK AT MOST 1048576: true; the input reads as it did. -/
def storeTypedUptoRow : OpenClaim := { program := "ytlnkdnmeikpckaagreat", sum := "6dc3a0b639b837deb14de48fc8e3615f06e7584e1ab9406b02bae8f7f989c23d", func := "jacquard/jacquardlaw21.StoreTyped", spec := "storeTyped", unfollowed := true, recurses := true, apart := false, narrowed := true }
def StoreTypedUptoSaid : Prop := storeTypedUptoRow.holds Tryz.pinned (OpenSpec.upto storeTypedSpec)

/-- 'jacquardlaw21.StoreStays', WHERE WHAT IT READS IS OF BULK AT MOST 1048576: true; the input reads as it did. -/
def storeStaysUptoRow : OpenClaim := { program := "ytlnkdnmeikpckaagreat", sum := "6dc3a0b639b837deb14de48fc8e3615f06e7584e1ab9406b02bae8f7f989c23d", func := "jacquard/jacquardlaw21.StoreStays", spec := "storeStays", unfollowed := true, recurses := true, apart := false, narrowed := true }
def StoreStaysUptoSaid : Prop := storeStaysUptoRow.holds Tryz.pinned (OpenSpec.upto storeStaysSpec)

/-- 'jacquardlaw21.StoreNone', WHERE WHAT IT READS IS OF BULK AT MOST 1048576: true; the input reads as it did. -/
def storeNoneUptoRow : OpenClaim := { program := "ytlnkdnmeikpckaagreat", sum := "6dc3a0b639b837deb14de48fc8e3615f06e7584e1ab9406b02bae8f7f989c23d", func := "jacquard/jacquardlaw21.StoreNone", spec := "storeNone", unfollowed := true, recurses := true, apart := false, narrowed := true }
def StoreNoneUptoSaid : Prop := storeNoneUptoRow.holds Tryz.pinned (OpenSpec.upto storeNoneSpec)

end Rows
end Go.Proofs.YtlnkdnmeikpckaaGreat
