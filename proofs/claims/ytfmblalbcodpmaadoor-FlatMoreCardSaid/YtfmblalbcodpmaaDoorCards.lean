/-
  DERIVED. GIVEN WITH THE SEED: THE CARDS: each row of YtfmblalbcodpmaaDoorRows.lean that lists a variable, with what it lists TIED to the program's text (the seventh form; the later family's looks); each row that meets fmt, with fmt's text TOLD by the authors' own Lean function (tested against real Go, not proved from fmt's source: count such statements apart). THE CARD IS WHAT COUNTS. Prove the row's statement (the work); the ties are given (YtfmblalbcodpmaaDoorTie.lean); close each card by the builder's one call (the guide's Derived/Test/ToyasCard.lean, 'card_holds'). Laid BY PROGRAM, IN A SANDBOX (cutbox-door.mjs). By AI agents, Wed Nov 11 2026. No macro, syntax, notation, axiom, sorry.
-/
import Derived.Test.YtfmblalbcodpmaaDoorRows
import GoSem.ClaimSeven
namespace Go.Proofs.YtfmblalbcodpmaaDoor
namespace Rows

/-- THE TIED CARD OF 'jacquardlaw18.FlatMore'. -/
def flatMoreCard : Claim7 := { stood := { row := flatMoreRow, standIns := [], harness := (true, "bcb2b88e611c72969228c42b89325c432c073d7c22e32281e5fc7e0628047710"), looks := false }, kinds := [], alts := [], laidByText := true, laidKinds := [.data, .listed, .data, .pinned], laidTests := true, laidLooks := .later }
def FlatMoreCardSaid : Prop := Claim7.holds Tryd.pinned (.plain (OpenSpec.ofChange flatMoreSpec)) flatMoreCard

/-- THE TIED CARD OF 'jacquardlaw15.CheckBlocks'. -/
def checkBlocksCard : Claim7 := { stood := { row := checkBlocksRow, standIns := [], harness := (true, "bcb2b88e611c72969228c42b89325c432c073d7c22e32281e5fc7e0628047710"), looks := false }, kinds := [], alts := [], laidByText := true, laidKinds := [.data, .listed, .data, .pinned], laidTests := true, laidLooks := .later }
def CheckBlocksCardSaid : Prop := Claim7.holds Tryd.pinned (.plain (OpenSpec.ofChange checkBlocksSpec)) checkBlocksCard

/-- THE TIED CARD OF 'jacquardlaw15.CheckLarger'. -/
def checkLargerCard : Claim7 := { stood := { row := checkLargerRow, standIns := [], harness := (true, "bcb2b88e611c72969228c42b89325c432c073d7c22e32281e5fc7e0628047710"), looks := false }, kinds := [], alts := [], laidByText := true, laidKinds := [.data, .listed, .data, .pinned], laidTests := true, laidLooks := .later }
def CheckLargerCardSaid : Prop := Claim7.holds Tryd.pinned (.plain (OpenSpec.ofChange checkLargerSpec)) checkLargerCard

/-- THE TIED CARD OF 'jacquardlaw15.CheckTwo'. -/
def checkTwoCard : Claim7 := { stood := { row := checkTwoRow, standIns := [], harness := (true, "bcb2b88e611c72969228c42b89325c432c073d7c22e32281e5fc7e0628047710"), looks := false }, kinds := [], alts := [], laidByText := true, laidKinds := [.data, .listed, .data, .pinned], laidTests := true, laidLooks := .later }
def CheckTwoCardSaid : Prop := Claim7.holds Tryd.pinned (.plain (OpenSpec.ofChange checkTwoSpec)) checkTwoCard

/-- THE TIED CARD OF 'jacquardlaw15.CheckDead'. -/
def checkDeadCard : Claim7 := { stood := { row := checkDeadRow, standIns := [], harness := (true, "bcb2b88e611c72969228c42b89325c432c073d7c22e32281e5fc7e0628047710"), looks := false }, kinds := [], alts := [], laidByText := true, laidKinds := [.data, .listed, .data, .pinned], laidTests := true, laidLooks := .later }
def CheckDeadCardSaid : Prop := Claim7.holds Tryd.pinned (.plain (OpenSpec.ofChange checkDeadSpec)) checkDeadCard

/-- THE TIED CARD OF 'jacquardlaw15.CheckConstant'. -/
def checkConstantCard : Claim7 := { stood := { row := checkConstantRow, standIns := [], harness := (true, "bcb2b88e611c72969228c42b89325c432c073d7c22e32281e5fc7e0628047710"), looks := false }, kinds := [], alts := [], laidByText := true, laidKinds := [.data, .listed, .data, .pinned], laidTests := true, laidLooks := .later }
def CheckConstantCardSaid : Prop := Claim7.holds Tryd.pinned (.plain (OpenSpec.ofChange checkConstantSpec)) checkConstantCard

/-- THE SECOND FORM's CARD OF 'jacquardlaw18.FlatMore'. -/
def flatMoreUptoCard : Claim7 := { stood := { row := flatMoreUptoRow, standIns := [], harness := (true, "bcb2b88e611c72969228c42b89325c432c073d7c22e32281e5fc7e0628047710"), looks := false }, kinds := [], alts := [], laidByText := true, laidKinds := [.data, .listed, .data, .pinned], laidTests := true, laidLooks := .later }
def FlatMoreUptoCardSaid : Prop := Claim7.holds Tryd.pinned (.plain (OpenSpec.upto flatMoreSpec)) flatMoreUptoCard

/-- THE SECOND FORM's CARD OF 'jacquardlaw15.CheckBlocks'. -/
def checkBlocksUptoCard : Claim7 := { stood := { row := checkBlocksUptoRow, standIns := [], harness := (true, "bcb2b88e611c72969228c42b89325c432c073d7c22e32281e5fc7e0628047710"), looks := false }, kinds := [], alts := [], laidByText := true, laidKinds := [.data, .listed, .data, .pinned], laidTests := true, laidLooks := .later }
def CheckBlocksUptoCardSaid : Prop := Claim7.holds Tryd.pinned (.plain (OpenSpec.upto checkBlocksSpec)) checkBlocksUptoCard

/-- THE SECOND FORM's CARD OF 'jacquardlaw15.CheckLarger'. -/
def checkLargerUptoCard : Claim7 := { stood := { row := checkLargerUptoRow, standIns := [], harness := (true, "bcb2b88e611c72969228c42b89325c432c073d7c22e32281e5fc7e0628047710"), looks := false }, kinds := [], alts := [], laidByText := true, laidKinds := [.data, .listed, .data, .pinned], laidTests := true, laidLooks := .later }
def CheckLargerUptoCardSaid : Prop := Claim7.holds Tryd.pinned (.plain (OpenSpec.upto checkLargerSpec)) checkLargerUptoCard

/-- THE SECOND FORM's CARD OF 'jacquardlaw15.CheckTwo'. -/
def checkTwoUptoCard : Claim7 := { stood := { row := checkTwoUptoRow, standIns := [], harness := (true, "bcb2b88e611c72969228c42b89325c432c073d7c22e32281e5fc7e0628047710"), looks := false }, kinds := [], alts := [], laidByText := true, laidKinds := [.data, .listed, .data, .pinned], laidTests := true, laidLooks := .later }
def CheckTwoUptoCardSaid : Prop := Claim7.holds Tryd.pinned (.plain (OpenSpec.upto checkTwoSpec)) checkTwoUptoCard

/-- THE SECOND FORM's CARD OF 'jacquardlaw15.CheckDead'. -/
def checkDeadUptoCard : Claim7 := { stood := { row := checkDeadUptoRow, standIns := [], harness := (true, "bcb2b88e611c72969228c42b89325c432c073d7c22e32281e5fc7e0628047710"), looks := false }, kinds := [], alts := [], laidByText := true, laidKinds := [.data, .listed, .data, .pinned], laidTests := true, laidLooks := .later }
def CheckDeadUptoCardSaid : Prop := Claim7.holds Tryd.pinned (.plain (OpenSpec.upto checkDeadSpec)) checkDeadUptoCard

/-- THE SECOND FORM's CARD OF 'jacquardlaw15.CheckConstant'. -/
def checkConstantUptoCard : Claim7 := { stood := { row := checkConstantUptoRow, standIns := [], harness := (true, "bcb2b88e611c72969228c42b89325c432c073d7c22e32281e5fc7e0628047710"), looks := false }, kinds := [], alts := [], laidByText := true, laidKinds := [.data, .listed, .data, .pinned], laidTests := true, laidLooks := .later }
def CheckConstantUptoCardSaid : Prop := Claim7.holds Tryd.pinned (.plain (OpenSpec.upto checkConstantSpec)) checkConstantUptoCard
end Rows
end Go.Proofs.YtfmblalbcodpmaaDoor
