/-
  No cell of these rows narrows 'for every input' (looked for: loops, veiled, ifaces, maps, wideKeys, modest, calm, conditions, laid).
  DERIVED. THE GIVEN ROWS OF THIS SEAT. 6 by the template 'for every input the law returns true; each argument reads behind the call as it read before'; 0 by the template 'total and deterministic' (their statements: YtpeekldngelkkaaTotals.lean).
  GIVEN WITH THE SEED: the statements are not yours to turn. If you find one false, say at which input.
  Laid BY PROGRAM, IN A SANDBOX (cutbox-rows.mjs): the forced cells as the released guide's own fill.sh prints them over the translation 113a1d0e64695b4c… (all of the seat's roots in one cut). By AI agents, Wed Nov 11 2026. No macro, syntax, notation, axiom, sorry.
-/
import Derived.Test.YtpeekldngelkkaaChecked
import GoSem.Claim
import GoSem.ClaimJoined
import GoSem.ClaimMapViews
import Derived.JoinedTies
import Derived.KernelRfl
namespace Go.Proofs.Ytpeekldngelkkaa
/- THE CELL 'sum', in the pinned program and in every row, IS THE sha256 OF THE DUMP (.gsa) THAT YtpeekldngelkkaaProg.lean LOADS. Nothing in Lean hashes anything: it is a label: what it is worth is what the hold of that sum in a sandbox is worth. -/
noncomputable def Try.pinned : Pinned := { name := "ytpeekldngelkkaa", sum := "113a1d0e64695b4c7c534c2b2e1fa378762684f4cb52fcf4915c1d5eb80212f5", checked := Try.checked }
namespace Rows
def none {H : Type} : Left H := { results := [], args := [] }

/-- 'jacquardlaw20.TabCopies': WHATEVER THE INPUT: true; the input reads as it did. -/
def tabCopiesSpec : ChangeSpec := { name := "tabCopies", fn := fun _ => fun
  | [d1, d2, d3, d4] => { results := [.lit (.bool true)], args := [d1, d2, d3, d4] }
  | _ => none }
def tabCopiesRow : OpenClaim := { program := "ytpeekldngelkkaa", sum := "113a1d0e64695b4c7c534c2b2e1fa378762684f4cb52fcf4915c1d5eb80212f5", func := "jacquard/jacquardlaw20.TabCopies", spec := "tabCopies", apart := false }
def TabCopiesSaid : Prop := tabCopiesRow.holds Try.pinned (OpenSpec.ofChange tabCopiesSpec)

/-- ITS FALSE NEIGHBOUR: 'it returns false'. Refute it at one input. -/
def tabCopiesWrong : ChangeSpec := { name := "tabCopies", fn := fun _ => fun
  | [d1, d2, d3, d4] => { results := [.lit (.bool false)], args := [d1, d2, d3, d4] }
  | _ => none }
def TabCopiesWrongFalsely : Prop := tabCopiesRow.holds Try.pinned (OpenSpec.ofChange tabCopiesWrong)

/-- 'jacquardlaw20.TabGrows': WHATEVER THE INPUT: true; the input reads as it did. -/
def tabGrowsSpec : ChangeSpec := { name := "tabGrows", fn := fun _ => fun
  | [d1, d2, d3, d4] => { results := [.lit (.bool true)], args := [d1, d2, d3, d4] }
  | _ => none }
def tabGrowsRow : OpenClaim := { program := "ytpeekldngelkkaa", sum := "113a1d0e64695b4c7c534c2b2e1fa378762684f4cb52fcf4915c1d5eb80212f5", func := "jacquard/jacquardlaw20.TabGrows", spec := "tabGrows", apart := false }
def TabGrowsSaid : Prop := tabGrowsRow.holds Try.pinned (OpenSpec.ofChange tabGrowsSpec)

/-- ITS FALSE NEIGHBOUR: 'it returns false'. Refute it at one input. -/
def tabGrowsWrong : ChangeSpec := { name := "tabGrows", fn := fun _ => fun
  | [d1, d2, d3, d4] => { results := [.lit (.bool false)], args := [d1, d2, d3, d4] }
  | _ => none }
def TabGrowsWrongFalsely : Prop := tabGrowsRow.holds Try.pinned (OpenSpec.ofChange tabGrowsWrong)

/-- 'jacquardlaw20.TabEnds': WHATEVER THE INPUT: true; the input reads as it did. -/
def tabEndsSpec : ChangeSpec := { name := "tabEnds", fn := fun _ => fun
  | [d1, d2] => { results := [.lit (.bool true)], args := [d1, d2] }
  | _ => none }
def tabEndsRow : OpenClaim := { program := "ytpeekldngelkkaa", sum := "113a1d0e64695b4c7c534c2b2e1fa378762684f4cb52fcf4915c1d5eb80212f5", func := "jacquard/jacquardlaw20.TabEnds", spec := "tabEnds", unfollowed := true, recurses := true, apart := false }
def TabEndsSaid : Prop := tabEndsRow.holds Try.pinned (OpenSpec.ofChange tabEndsSpec)

/-- ITS FALSE NEIGHBOUR: 'it returns false'. Refute it at one input. -/
def tabEndsWrong : ChangeSpec := { name := "tabEnds", fn := fun _ => fun
  | [d1, d2] => { results := [.lit (.bool false)], args := [d1, d2] }
  | _ => none }
def TabEndsWrongFalsely : Prop := tabEndsRow.holds Try.pinned (OpenSpec.ofChange tabEndsWrong)

/-- 'jacquardlaw20.TabFresh': WHATEVER THE INPUT: true; the input reads as it did. -/
def tabFreshSpec : ChangeSpec := { name := "tabFresh", fn := fun _ => fun
  | [d1, d2] => { results := [.lit (.bool true)], args := [d1, d2] }
  | _ => none }
def tabFreshRow : OpenClaim := { program := "ytpeekldngelkkaa", sum := "113a1d0e64695b4c7c534c2b2e1fa378762684f4cb52fcf4915c1d5eb80212f5", func := "jacquard/jacquardlaw20.TabFresh", spec := "tabFresh", unfollowed := true, recurses := true, apart := false }
def TabFreshSaid : Prop := tabFreshRow.holds Try.pinned (OpenSpec.ofChange tabFreshSpec)

/-- ITS FALSE NEIGHBOUR: 'it returns false'. Refute it at one input. -/
def tabFreshWrong : ChangeSpec := { name := "tabFresh", fn := fun _ => fun
  | [d1, d2] => { results := [.lit (.bool false)], args := [d1, d2] }
  | _ => none }
def TabFreshWrongFalsely : Prop := tabFreshRow.holds Try.pinned (OpenSpec.ofChange tabFreshWrong)

/-- 'jacquardlaw20.TabPlays': WHATEVER THE INPUT: true; the input reads as it did. -/
def tabPlaysSpec : ChangeSpec := { name := "tabPlays", fn := fun _ => fun
  | [d1, d2, d3, d4, d5] => { results := [.lit (.bool true)], args := [d1, d2, d3, d4, d5] }
  | _ => none }
def tabPlaysRow : OpenClaim := { program := "ytpeekldngelkkaa", sum := "113a1d0e64695b4c7c534c2b2e1fa378762684f4cb52fcf4915c1d5eb80212f5", func := "jacquard/jacquardlaw20.TabPlays", spec := "tabPlays", unfollowed := true, recurses := true, apart := false }
def TabPlaysSaid : Prop := tabPlaysRow.holds Try.pinned (OpenSpec.ofChange tabPlaysSpec)

/-- ITS FALSE NEIGHBOUR: 'it returns false'. Refute it at one input. -/
def tabPlaysWrong : ChangeSpec := { name := "tabPlays", fn := fun _ => fun
  | [d1, d2, d3, d4, d5] => { results := [.lit (.bool false)], args := [d1, d2, d3, d4, d5] }
  | _ => none }
def TabPlaysWrongFalsely : Prop := tabPlaysRow.holds Try.pinned (OpenSpec.ofChange tabPlaysWrong)

/-- 'jacquardlaw20.TabNil': WHATEVER THE INPUT: true; the input reads as it did. -/
def tabNilSpec : ChangeSpec := { name := "tabNil", fn := fun _ => fun
  | [d1, d2] => { results := [.lit (.bool true)], args := [d1, d2] }
  | _ => none }
def tabNilRow : OpenClaim := { program := "ytpeekldngelkkaa", sum := "113a1d0e64695b4c7c534c2b2e1fa378762684f4cb52fcf4915c1d5eb80212f5", func := "jacquard/jacquardlaw20.TabNil", spec := "tabNil", unfollowed := true, recurses := true, apart := false }
def TabNilSaid : Prop := tabNilRow.holds Try.pinned (OpenSpec.ofChange tabNilSpec)

/-- ITS FALSE NEIGHBOUR: 'it returns false'. Refute it at one input. -/
def tabNilWrong : ChangeSpec := { name := "tabNil", fn := fun _ => fun
  | [d1, d2] => { results := [.lit (.bool false)], args := [d1, d2] }
  | _ => none }
def TabNilWrongFalsely : Prop := tabNilRow.holds Try.pinned (OpenSpec.ofChange tabNilWrong)

/- THE SECOND FORM. 'bulk': how many values and letters a reading holds, each counted each time it is reached (what is shared counts as often as it is met; a slice's spare places count too). A statement '..UptoSaid' is the law's where the arguments, and the package variables that the reading takes, are together of bulk at most 1048576: NARROWER than '..Said'. Prove '..Said' where nothing that the law and all that it calls make is longer than what came in: it says more and counts as full. Else prove '..UptoSaid'. A law counts once. -/
mutual
def uptoBulk {H : Type} : DataW H → Nat
  | .lit (.string bytes) => bytes.length + 1
  | .lit _ => 1
  | .nil => 1
  | .ptr d => uptoBulk d + 1
  | .slice elems spare => uptoBulkAll elems + uptoBulkAll spare + 1
  | .agg parts => uptoBulkAll parts + 1
  | .iface _ d => uptoBulk d + 1
  | .map entries => uptoBulkEntries entries + 1
  | .held _ => 1
def uptoBulkAll {H : Type} : List (DataW H) → Nat
  | [] => 0
  | d :: r => uptoBulk d + uptoBulkAll r
def uptoBulkEntries {H : Type} : List (Lit × DataW H) → Nat
  | [] => 0
  | x :: r => uptoBulkEntry x + uptoBulkEntries r
def uptoBulkEntry {H : Type} : Lit × DataW H → Nat
  | (.string bytes, d) => bytes.length + uptoBulk d + 1
  | (_, d) => uptoBulk d + 1
 end
def uptoSmall : (H : Type) → List (DataW H) → Bool := fun _ ds => decide (uptoBulkAll ds ≤ 1048576)
def OpenSpec.upto (s : _root_.Go.ChangeSpec) : _root_.Go.OpenSpec := { _root_.Go.OpenSpec.ofChange s with cond := some uptoSmall }

/-- 'jacquardlaw20.TabCopies', WHERE WHAT IT READS IS OF BULK AT MOST 1048576: true; the input reads as it did. -/
def tabCopiesUptoRow : OpenClaim := { program := "ytpeekldngelkkaa", sum := "113a1d0e64695b4c7c534c2b2e1fa378762684f4cb52fcf4915c1d5eb80212f5", func := "jacquard/jacquardlaw20.TabCopies", spec := "tabCopies", apart := false, narrowed := true }
def TabCopiesUptoSaid : Prop := tabCopiesUptoRow.holds Try.pinned (OpenSpec.upto tabCopiesSpec)

/-- 'jacquardlaw20.TabGrows', WHERE WHAT IT READS IS OF BULK AT MOST 1048576: true; the input reads as it did. -/
def tabGrowsUptoRow : OpenClaim := { program := "ytpeekldngelkkaa", sum := "113a1d0e64695b4c7c534c2b2e1fa378762684f4cb52fcf4915c1d5eb80212f5", func := "jacquard/jacquardlaw20.TabGrows", spec := "tabGrows", apart := false, narrowed := true }
def TabGrowsUptoSaid : Prop := tabGrowsUptoRow.holds Try.pinned (OpenSpec.upto tabGrowsSpec)

/-- 'jacquardlaw20.TabEnds', WHERE WHAT IT READS IS OF BULK AT MOST 1048576: true; the input reads as it did. -/
def tabEndsUptoRow : OpenClaim := { program := "ytpeekldngelkkaa", sum := "113a1d0e64695b4c7c534c2b2e1fa378762684f4cb52fcf4915c1d5eb80212f5", func := "jacquard/jacquardlaw20.TabEnds", spec := "tabEnds", unfollowed := true, recurses := true, apart := false, narrowed := true }
def TabEndsUptoSaid : Prop := tabEndsUptoRow.holds Try.pinned (OpenSpec.upto tabEndsSpec)

/-- 'jacquardlaw20.TabFresh', WHERE WHAT IT READS IS OF BULK AT MOST 1048576: true; the input reads as it did. -/
def tabFreshUptoRow : OpenClaim := { program := "ytpeekldngelkkaa", sum := "113a1d0e64695b4c7c534c2b2e1fa378762684f4cb52fcf4915c1d5eb80212f5", func := "jacquard/jacquardlaw20.TabFresh", spec := "tabFresh", unfollowed := true, recurses := true, apart := false, narrowed := true }
def TabFreshUptoSaid : Prop := tabFreshUptoRow.holds Try.pinned (OpenSpec.upto tabFreshSpec)

/-- 'jacquardlaw20.TabPlays', WHERE WHAT IT READS IS OF BULK AT MOST 1048576: true; the input reads as it did. -/
def tabPlaysUptoRow : OpenClaim := { program := "ytpeekldngelkkaa", sum := "113a1d0e64695b4c7c534c2b2e1fa378762684f4cb52fcf4915c1d5eb80212f5", func := "jacquard/jacquardlaw20.TabPlays", spec := "tabPlays", unfollowed := true, recurses := true, apart := false, narrowed := true }
def TabPlaysUptoSaid : Prop := tabPlaysUptoRow.holds Try.pinned (OpenSpec.upto tabPlaysSpec)

/-- 'jacquardlaw20.TabNil', WHERE WHAT IT READS IS OF BULK AT MOST 1048576: true; the input reads as it did. -/
def tabNilUptoRow : OpenClaim := { program := "ytpeekldngelkkaa", sum := "113a1d0e64695b4c7c534c2b2e1fa378762684f4cb52fcf4915c1d5eb80212f5", func := "jacquard/jacquardlaw20.TabNil", spec := "tabNil", unfollowed := true, recurses := true, apart := false, narrowed := true }
def TabNilUptoSaid : Prop := tabNilUptoRow.holds Try.pinned (OpenSpec.upto tabNilSpec)

end Rows
end Go.Proofs.Ytpeekldngelkkaa
