/-
  No cell of these rows narrows 'for every input' (looked for: loops, veiled, ifaces, maps, wideKeys, modest, calm, conditions, laid).
  DERIVED. THE GIVEN ROWS OF THIS SEAT. 7 by the template 'for every input the law returns true; each argument reads behind the call as it read before'; 0 by the template 'total and deterministic' (their statements: YtpbaojjcbpfdaaaTotals.lean).
  GIVEN WITH THE SEED: the statements are not yours to turn. If you find one false, say at which input.
  Laid BY PROGRAM, IN A SANDBOX (cutbox-rows.mjs): the forced cells as the released guide's own fill.sh prints them over the translation c40407aee4b45165… (all of the seat's roots in one cut). By AI agents, Wed Nov 11 2026. No macro, syntax, notation, axiom, sorry.
-/
import Derived.Test.YtpbaojjcbpfdaaaChecked
import GoSem.Claim
import GoSem.ClaimJoined
import GoSem.ClaimMapViews
import Derived.JoinedTies
import Derived.KernelRfl
namespace Go.Proofs.Ytpbaojjcbpfdaaa
/- THE CELL 'sum', in the pinned program and in every row, IS THE sha256 OF THE DUMP (.gsa) THAT YtpbaojjcbpfdaaaProg.lean LOADS. Nothing in Lean hashes anything: it is a label: what it is worth is what the hold of that sum in a sandbox is worth. -/
noncomputable def Try.pinned : Pinned := { name := "ytpbaojjcbpfdaaa", sum := "c40407aee4b451652928e6831bee0098373a12651adafac2d195fa700b1eb5a8", checked := Try.checked }
namespace Rows
def none {H : Type} : Left H := { results := [], args := [] }

/-- 'jacquardlaw14.StackBack': WHATEVER THE INPUT: true; the input reads as it did. -/
def stackBackSpec : ChangeSpec := { name := "stackBack", fn := fun _ => fun
  | [d1, d2] => { results := [.lit (.bool true)], args := [d1, d2] }
  | _ => none }
def stackBackRow : OpenClaim := { program := "ytpbaojjcbpfdaaa", sum := "c40407aee4b451652928e6831bee0098373a12651adafac2d195fa700b1eb5a8", func := "jacquard/jacquardlaw14.StackBack", spec := "stackBack", apart := false }
def StackBackSaid : Prop := stackBackRow.holds Try.pinned (OpenSpec.ofChange stackBackSpec)

/-- ITS FALSE NEIGHBOUR: 'it returns false'. Refute it at one input. -/
def stackBackWrong : ChangeSpec := { name := "stackBack", fn := fun _ => fun
  | [d1, d2] => { results := [.lit (.bool false)], args := [d1, d2] }
  | _ => none }
def StackBackWrongFalsely : Prop := stackBackRow.holds Try.pinned (OpenSpec.ofChange stackBackWrong)

/-- 'jacquardlaw14.StackDead': WHATEVER THE INPUT: true; the input reads as it did. -/
def stackDeadSpec : ChangeSpec := { name := "stackDead", fn := fun _ => fun
  | [d1, d2] => { results := [.lit (.bool true)], args := [d1, d2] }
  | _ => none }
def stackDeadRow : OpenClaim := { program := "ytpbaojjcbpfdaaa", sum := "c40407aee4b451652928e6831bee0098373a12651adafac2d195fa700b1eb5a8", func := "jacquard/jacquardlaw14.StackDead", spec := "stackDead", apart := false }
def StackDeadSaid : Prop := stackDeadRow.holds Try.pinned (OpenSpec.ofChange stackDeadSpec)

/-- ITS FALSE NEIGHBOUR: 'it returns false'. Refute it at one input. -/
def stackDeadWrong : ChangeSpec := { name := "stackDead", fn := fun _ => fun
  | [d1, d2] => { results := [.lit (.bool false)], args := [d1, d2] }
  | _ => none }
def StackDeadWrongFalsely : Prop := stackDeadRow.holds Try.pinned (OpenSpec.ofChange stackDeadWrong)

/-- 'jacquardlaw14.StackPlays': WHATEVER THE INPUT: true; the input reads as it did. -/
def stackPlaysSpec : ChangeSpec := { name := "stackPlays", fn := fun _ => fun
  | [d] => { results := [.lit (.bool true)], args := [d] }
  | _ => none }
def stackPlaysRow : OpenClaim := { program := "ytpbaojjcbpfdaaa", sum := "c40407aee4b451652928e6831bee0098373a12651adafac2d195fa700b1eb5a8", func := "jacquard/jacquardlaw14.StackPlays", spec := "stackPlays", apart := false }
def StackPlaysSaid : Prop := stackPlaysRow.holds Try.pinned (OpenSpec.ofChange stackPlaysSpec)

/-- ITS FALSE NEIGHBOUR: 'it returns false'. Refute it at one input. -/
def stackPlaysWrong : ChangeSpec := { name := "stackPlays", fn := fun _ => fun
  | [d] => { results := [.lit (.bool false)], args := [d] }
  | _ => none }
def StackPlaysWrongFalsely : Prop := stackPlaysRow.holds Try.pinned (OpenSpec.ofChange stackPlaysWrong)

/-- 'jacquardlaw14.StackFloor': WHATEVER THE INPUT: true; the input reads as it did. -/
def stackFloorSpec : ChangeSpec := { name := "stackFloor", fn := fun _ => fun
  | [d1, d2] => { results := [.lit (.bool true)], args := [d1, d2] }
  | _ => none }
def stackFloorRow : OpenClaim := { program := "ytpbaojjcbpfdaaa", sum := "c40407aee4b451652928e6831bee0098373a12651adafac2d195fa700b1eb5a8", func := "jacquard/jacquardlaw14.StackFloor", spec := "stackFloor", apart := false }
def StackFloorSaid : Prop := stackFloorRow.holds Try.pinned (OpenSpec.ofChange stackFloorSpec)

/-- ITS FALSE NEIGHBOUR: 'it returns false'. Refute it at one input. -/
def stackFloorWrong : ChangeSpec := { name := "stackFloor", fn := fun _ => fun
  | [d1, d2] => { results := [.lit (.bool false)], args := [d1, d2] }
  | _ => none }
def StackFloorWrongFalsely : Prop := stackFloorRow.holds Try.pinned (OpenSpec.ofChange stackFloorWrong)

/-- 'jacquardlaw14.StackKeeps': WHATEVER THE INPUT: true; the input reads as it did. -/
def stackKeepsSpec : ChangeSpec := { name := "stackKeeps", fn := fun _ => fun
  | [d] => { results := [.lit (.bool true)], args := [d] }
  | _ => none }
def stackKeepsRow : OpenClaim := { program := "ytpbaojjcbpfdaaa", sum := "c40407aee4b451652928e6831bee0098373a12651adafac2d195fa700b1eb5a8", func := "jacquard/jacquardlaw14.StackKeeps", spec := "stackKeeps", apart := false }
def StackKeepsSaid : Prop := stackKeepsRow.holds Try.pinned (OpenSpec.ofChange stackKeepsSpec)

/-- ITS FALSE NEIGHBOUR: 'it returns false'. Refute it at one input. -/
def stackKeepsWrong : ChangeSpec := { name := "stackKeeps", fn := fun _ => fun
  | [d] => { results := [.lit (.bool false)], args := [d] }
  | _ => none }
def StackKeepsWrongFalsely : Prop := stackKeepsRow.holds Try.pinned (OpenSpec.ofChange stackKeepsWrong)

/-- 'jacquardlaw14.StackFresh': WHATEVER THE INPUT: true; the input reads as it did. -/
def stackFreshSpec : ChangeSpec := { name := "stackFresh", fn := fun _ => fun
  | [d] => { results := [.lit (.bool true)], args := [d] }
  | _ => none }
def stackFreshRow : OpenClaim := { program := "ytpbaojjcbpfdaaa", sum := "c40407aee4b451652928e6831bee0098373a12651adafac2d195fa700b1eb5a8", func := "jacquard/jacquardlaw14.StackFresh", spec := "stackFresh", apart := false }
def StackFreshSaid : Prop := stackFreshRow.holds Try.pinned (OpenSpec.ofChange stackFreshSpec)

/-- ITS FALSE NEIGHBOUR: 'it returns false'. Refute it at one input. -/
def stackFreshWrong : ChangeSpec := { name := "stackFresh", fn := fun _ => fun
  | [d] => { results := [.lit (.bool false)], args := [d] }
  | _ => none }
def StackFreshWrongFalsely : Prop := stackFreshRow.holds Try.pinned (OpenSpec.ofChange stackFreshWrong)

/-- 'jacquardlaw14.StackNil': WHATEVER THE INPUT: true; the input reads as it did. -/
def stackNilSpec : ChangeSpec := { name := "stackNil", fn := fun _ => fun
  | [d1, d2] => { results := [.lit (.bool true)], args := [d1, d2] }
  | _ => none }
def stackNilRow : OpenClaim := { program := "ytpbaojjcbpfdaaa", sum := "c40407aee4b451652928e6831bee0098373a12651adafac2d195fa700b1eb5a8", func := "jacquard/jacquardlaw14.StackNil", spec := "stackNil", apart := false }
def StackNilSaid : Prop := stackNilRow.holds Try.pinned (OpenSpec.ofChange stackNilSpec)

/-- ITS FALSE NEIGHBOUR: 'it returns false'. Refute it at one input. -/
def stackNilWrong : ChangeSpec := { name := "stackNil", fn := fun _ => fun
  | [d1, d2] => { results := [.lit (.bool false)], args := [d1, d2] }
  | _ => none }
def StackNilWrongFalsely : Prop := stackNilRow.holds Try.pinned (OpenSpec.ofChange stackNilWrong)

/- THE SECOND FORM. 'bulk': how many values and letters a reading holds, each counted each time it is reached (what is shared counts as often as it is met; a slice's spare places count too). A statement '..UptoSaid' is the law's where the arguments, and the package variables that the reading takes, are together of bulk at most 1048576: NARROWER than '..Said'. Prove '..Said' where nothing that the law and all that it calls make is longer than what came in: it says more and counts as full. Else prove '..UptoSaid'. A law counts once. -/
mutual
def uptoBulk {H : Type} : DataW H → Nat
  | .lit (.string bytes) => bytes.length + 1
  | .lit _ => 1
  | .nil => 1
  | .ptr d => uptoBulk d + 1
  | .slice elems spare => uptoBulkAll elems + uptoBulkAll spare + 1
  | .agg parts => uptoBulkAll parts + 1
  | .iface _ d => uptoBulk d + 1
  | .map entries => uptoBulkEntries entries + 1
  | .held _ => 1
def uptoBulkAll {H : Type} : List (DataW H) → Nat
  | [] => 0
  | d :: r => uptoBulk d + uptoBulkAll r
def uptoBulkEntries {H : Type} : List (Lit × DataW H) → Nat
  | [] => 0
  | x :: r => uptoBulkEntry x + uptoBulkEntries r
def uptoBulkEntry {H : Type} : Lit × DataW H → Nat
  | (.string bytes, d) => bytes.length + uptoBulk d + 1
  | (_, d) => uptoBulk d + 1
 end
def uptoSmall : (H : Type) → List (DataW H) → Bool := fun _ ds => decide (uptoBulkAll ds ≤ 1048576)
def OpenSpec.upto (s : _root_.Go.ChangeSpec) : _root_.Go.OpenSpec := { _root_.Go.OpenSpec.ofChange s with cond := some uptoSmall }

/-- 'jacquardlaw14.StackBack', WHERE WHAT IT READS IS OF BULK AT MOST 1048576: true; the input reads as it did. -/
def stackBackUptoRow : OpenClaim := { program := "ytpbaojjcbpfdaaa", sum := "c40407aee4b451652928e6831bee0098373a12651adafac2d195fa700b1eb5a8", func := "jacquard/jacquardlaw14.StackBack", spec := "stackBack", apart := false, narrowed := true }
def StackBackUptoSaid : Prop := stackBackUptoRow.holds Try.pinned (OpenSpec.upto stackBackSpec)

/-- 'jacquardlaw14.StackDead', WHERE WHAT IT READS IS OF BULK AT MOST 1048576: true; the input reads as it did. -/
def stackDeadUptoRow : OpenClaim := { program := "ytpbaojjcbpfdaaa", sum := "c40407aee4b451652928e6831bee0098373a12651adafac2d195fa700b1eb5a8", func := "jacquard/jacquardlaw14.StackDead", spec := "stackDead", apart := false, narrowed := true }
def StackDeadUptoSaid : Prop := stackDeadUptoRow.holds Try.pinned (OpenSpec.upto stackDeadSpec)

/-- 'jacquardlaw14.StackPlays', WHERE WHAT IT READS IS OF BULK AT MOST 1048576: true; the input reads as it did. -/
def stackPlaysUptoRow : OpenClaim := { program := "ytpbaojjcbpfdaaa", sum := "c40407aee4b451652928e6831bee0098373a12651adafac2d195fa700b1eb5a8", func := "jacquard/jacquardlaw14.StackPlays", spec := "stackPlays", apart := false, narrowed := true }
def StackPlaysUptoSaid : Prop := stackPlaysUptoRow.holds Try.pinned (OpenSpec.upto stackPlaysSpec)

/-- 'jacquardlaw14.StackFloor', WHERE WHAT IT READS IS OF BULK AT MOST 1048576: true; the input reads as it did. -/
def stackFloorUptoRow : OpenClaim := { program := "ytpbaojjcbpfdaaa", sum := "c40407aee4b451652928e6831bee0098373a12651adafac2d195fa700b1eb5a8", func := "jacquard/jacquardlaw14.StackFloor", spec := "stackFloor", apart := false, narrowed := true }
def StackFloorUptoSaid : Prop := stackFloorUptoRow.holds Try.pinned (OpenSpec.upto stackFloorSpec)

/-- 'jacquardlaw14.StackKeeps', WHERE WHAT IT READS IS OF BULK AT MOST 1048576: true; the input reads as it did. -/
def stackKeepsUptoRow : OpenClaim := { program := "ytpbaojjcbpfdaaa", sum := "c40407aee4b451652928e6831bee0098373a12651adafac2d195fa700b1eb5a8", func := "jacquard/jacquardlaw14.StackKeeps", spec := "stackKeeps", apart := false, narrowed := true }
def StackKeepsUptoSaid : Prop := stackKeepsUptoRow.holds Try.pinned (OpenSpec.upto stackKeepsSpec)

/-- 'jacquardlaw14.StackFresh', WHERE WHAT IT READS IS OF BULK AT MOST 1048576: true; the input reads as it did. -/
def stackFreshUptoRow : OpenClaim := { program := "ytpbaojjcbpfdaaa", sum := "c40407aee4b451652928e6831bee0098373a12651adafac2d195fa700b1eb5a8", func := "jacquard/jacquardlaw14.StackFresh", spec := "stackFresh", apart := false, narrowed := true }
def StackFreshUptoSaid : Prop := stackFreshUptoRow.holds Try.pinned (OpenSpec.upto stackFreshSpec)

/-- 'jacquardlaw14.StackNil', WHERE WHAT IT READS IS OF BULK AT MOST 1048576: true; the input reads as it did. -/
def stackNilUptoRow : OpenClaim := { program := "ytpbaojjcbpfdaaa", sum := "c40407aee4b451652928e6831bee0098373a12651adafac2d195fa700b1eb5a8", func := "jacquard/jacquardlaw14.StackNil", spec := "stackNil", apart := false, narrowed := true }
def StackNilUptoSaid : Prop := stackNilUptoRow.holds Try.pinned (OpenSpec.upto stackNilSpec)

end Rows
end Go.Proofs.Ytpbaojjcbpfdaaa
