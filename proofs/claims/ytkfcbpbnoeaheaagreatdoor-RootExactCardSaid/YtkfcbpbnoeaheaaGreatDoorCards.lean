/-
  DERIVED. GIVEN WITH THE SEED: THE CARDS: each row of YtkfcbpbnoeaheaaGreatDoorRows.lean that lists a variable, with what it lists TIED to the program's text (the seventh form; the later family's looks); each row that meets fmt, with fmt's text TOLD by the authors' own Lean function (tested against real Go, not proved from fmt's source: count such statements apart). THE CARD IS WHAT COUNTS. Prove the row's statement (the work); the ties are given (YtkfcbpbnoeaheaaGreatDoorTie.lean); close each card by the builder's one call (the guide's Derived/Test/ToyasCard.lean, 'card_holds'). Laid BY PROGRAM, IN A SANDBOX (cutbox-door.mjs). By AI agents, Wed Nov 11 2026. No macro, syntax, notation, axiom, sorry.
-/
import Derived.Test.YtkfcbpbnoeaheaaGreatDoorRows
import GoSem.ClaimSeven
namespace Go.Proofs.YtkfcbpbnoeaheaaGreatDoor
namespace Rows

/-- THE TIED CARD OF 'bellwetherlaw18.FlowExact'. -/
def flowExactCard : Claim7 := { stood := { row := flowExactRow, standIns := [], harness := (true, "69470500f39625bc830a328c12f0bb86f3b8ebd90c5d4419f6f58ca11a7beabc"), looks := true }, kinds := [], alts := [], laidByText := true, laidKinds := [.handle], laidTests := true, laidLooks := .later }
def FlowExactCardSaid : Prop := Claim7.holds Tryz.pinned (.plain (OpenSpec.ofChange flowExactSpec)) flowExactCard

/-- THE TIED CARD OF 'bellwetherlaw18.FlowEpochs'. -/
def flowEpochsCard : Claim7 := { stood := { row := flowEpochsRow, standIns := [], harness := (true, "69470500f39625bc830a328c12f0bb86f3b8ebd90c5d4419f6f58ca11a7beabc"), looks := true }, kinds := [], alts := [], laidByText := true, laidKinds := [.handle], laidTests := true, laidLooks := .later }
def FlowEpochsCardSaid : Prop := Claim7.holds Tryz.pinned (.plain (OpenSpec.ofChange flowEpochsSpec)) flowEpochsCard

/-- THE TIED CARD OF 'bellwetherlaw20.RootExact'. -/
def rootExactCard : Claim7 := { stood := { row := rootExactRow, standIns := [], harness := (true, "69470500f39625bc830a328c12f0bb86f3b8ebd90c5d4419f6f58ca11a7beabc"), looks := true }, kinds := [], alts := [], laidByText := true, laidKinds := [.handle], laidTests := true, laidLooks := .later }
def RootExactCardSaid : Prop := Claim7.holds Tryz.pinned (.plain (OpenSpec.ofChange rootExactSpec)) rootExactCard

/-- THE TIED CARD OF 'bellwetherlaw20.RootEpoch'. -/
def rootEpochCard : Claim7 := { stood := { row := rootEpochRow, standIns := [], harness := (true, "69470500f39625bc830a328c12f0bb86f3b8ebd90c5d4419f6f58ca11a7beabc"), looks := true }, kinds := [], alts := [], laidByText := true, laidKinds := [.handle], laidTests := true, laidLooks := .later }
def RootEpochCardSaid : Prop := Claim7.holds Tryz.pinned (.plain (OpenSpec.ofChange rootEpochSpec)) rootEpochCard

/-- THE TIED CARD OF 'bellwetherlaw20.RootNumbers'. -/
def rootNumbersCard : Claim7 := { stood := { row := rootNumbersRow, standIns := [], harness := (true, "69470500f39625bc830a328c12f0bb86f3b8ebd90c5d4419f6f58ca11a7beabc"), looks := true }, kinds := [], alts := [], laidByText := true, laidKinds := [.handle], laidTests := true, laidLooks := .later }
def RootNumbersCardSaid : Prop := Claim7.holds Tryz.pinned (.plain (OpenSpec.ofChange rootNumbersSpec)) rootNumbersCard

/-- THE TIED CARD OF 'bellwetherlaw20.RootTurns'. -/
def rootTurnsCard : Claim7 := { stood := { row := rootTurnsRow, standIns := [], harness := (true, "69470500f39625bc830a328c12f0bb86f3b8ebd90c5d4419f6f58ca11a7beabc"), looks := true }, kinds := [], alts := [], laidByText := true, laidKinds := [.handle], laidTests := true, laidLooks := .later }
def RootTurnsCardSaid : Prop := Claim7.holds Tryz.pinned (.plain (OpenSpec.ofChange rootTurnsSpec)) rootTurnsCard

/-- THE SECOND FORM's CARD OF 'bellwetherlaw18.FlowExact'. -/
def flowExactUptoCard : Claim7 := { stood := { row := flowExactUptoRow, standIns := [], harness := (true, "69470500f39625bc830a328c12f0bb86f3b8ebd90c5d4419f6f58ca11a7beabc"), looks := true }, kinds := [], alts := [], laidByText := true, laidKinds := [.handle], laidTests := true, laidLooks := .later }
def FlowExactUptoCardSaid : Prop := Claim7.holds Tryz.pinned (.plain (OpenSpec.upto flowExactSpec)) flowExactUptoCard

/-- THE SECOND FORM's CARD OF 'bellwetherlaw18.FlowEpochs'. -/
def flowEpochsUptoCard : Claim7 := { stood := { row := flowEpochsUptoRow, standIns := [], harness := (true, "69470500f39625bc830a328c12f0bb86f3b8ebd90c5d4419f6f58ca11a7beabc"), looks := true }, kinds := [], alts := [], laidByText := true, laidKinds := [.handle], laidTests := true, laidLooks := .later }
def FlowEpochsUptoCardSaid : Prop := Claim7.holds Tryz.pinned (.plain (OpenSpec.upto flowEpochsSpec)) flowEpochsUptoCard

/-- THE SECOND FORM's CARD OF 'bellwetherlaw20.RootExact'. -/
def rootExactUptoCard : Claim7 := { stood := { row := rootExactUptoRow, standIns := [], harness := (true, "69470500f39625bc830a328c12f0bb86f3b8ebd90c5d4419f6f58ca11a7beabc"), looks := true }, kinds := [], alts := [], laidByText := true, laidKinds := [.handle], laidTests := true, laidLooks := .later }
def RootExactUptoCardSaid : Prop := Claim7.holds Tryz.pinned (.plain (OpenSpec.upto rootExactSpec)) rootExactUptoCard

/-- THE SECOND FORM's CARD OF 'bellwetherlaw20.RootEpoch'. -/
def rootEpochUptoCard : Claim7 := { stood := { row := rootEpochUptoRow, standIns := [], harness := (true, "69470500f39625bc830a328c12f0bb86f3b8ebd90c5d4419f6f58ca11a7beabc"), looks := true }, kinds := [], alts := [], laidByText := true, laidKinds := [.handle], laidTests := true, laidLooks := .later }
def RootEpochUptoCardSaid : Prop := Claim7.holds Tryz.pinned (.plain (OpenSpec.upto rootEpochSpec)) rootEpochUptoCard

/-- THE SECOND FORM's CARD OF 'bellwetherlaw20.RootNumbers'. -/
def rootNumbersUptoCard : Claim7 := { stood := { row := rootNumbersUptoRow, standIns := [], harness := (true, "69470500f39625bc830a328c12f0bb86f3b8ebd90c5d4419f6f58ca11a7beabc"), looks := true }, kinds := [], alts := [], laidByText := true, laidKinds := [.handle], laidTests := true, laidLooks := .later }
def RootNumbersUptoCardSaid : Prop := Claim7.holds Tryz.pinned (.plain (OpenSpec.upto rootNumbersSpec)) rootNumbersUptoCard

/-- THE SECOND FORM's CARD OF 'bellwetherlaw20.RootTurns'. -/
def rootTurnsUptoCard : Claim7 := { stood := { row := rootTurnsUptoRow, standIns := [], harness := (true, "69470500f39625bc830a328c12f0bb86f3b8ebd90c5d4419f6f58ca11a7beabc"), looks := true }, kinds := [], alts := [], laidByText := true, laidKinds := [.handle], laidTests := true, laidLooks := .later }
def RootTurnsUptoCardSaid : Prop := Claim7.holds Tryz.pinned (.plain (OpenSpec.upto rootTurnsSpec)) rootTurnsUptoCard
end Rows
end Go.Proofs.YtkfcbpbnoeaheaaGreatDoor
