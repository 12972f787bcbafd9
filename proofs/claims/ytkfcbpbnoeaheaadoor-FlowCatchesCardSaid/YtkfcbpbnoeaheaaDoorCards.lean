/-
  DERIVED. GIVEN WITH THE SEED: THE CARDS: each row of YtkfcbpbnoeaheaaDoorRows.lean that lists a variable, with what it lists TIED to the program's text (the seventh form; the later family's looks); each row that meets fmt, with fmt's text TOLD by the authors' own Lean function (tested against real Go, not proved from fmt's source: count such statements apart). THE CARD IS WHAT COUNTS. Prove the row's statement (the work); the ties are given (YtkfcbpbnoeaheaaDoorTie.lean); close each card by the builder's one call (the guide's Derived/Test/ToyasCard.lean, 'card_holds'). Laid BY PROGRAM, IN A SANDBOX (cutbox-door.mjs). By AI agents, Wed Nov 11 2026. No macro, syntax, notation, axiom, sorry.
-/
import Derived.Test.YtkfcbpbnoeaheaaDoorRows
import GoSem.ClaimSeven
namespace Go.Proofs.YtkfcbpbnoeaheaaDoor
namespace Rows

/-- THE TIED CARD OF 'bellwetherlaw18.FlowOnce'. -/
def flowOnceCard : Claim7 := { stood := { row := flowOnceRow, standIns := [], harness := (true, "01568492e726bc72e25167674e1021d88b6d9f3c3a07043bcae3be2ffb9debff"), looks := true }, kinds := [], alts := [], laidByText := true, laidKinds := [.handle], laidTests := true, laidLooks := .later }
def FlowOnceCardSaid : Prop := Claim7.holds Tryd.pinned (.plain (OpenSpec.ofChange flowOnceSpec)) flowOnceCard

/-- THE TIED CARD OF 'bellwetherlaw18.FlowGap'. -/
def flowGapCard : Claim7 := { stood := { row := flowGapRow, standIns := [], harness := (true, "01568492e726bc72e25167674e1021d88b6d9f3c3a07043bcae3be2ffb9debff"), looks := true }, kinds := [], alts := [], laidByText := true, laidKinds := [.handle], laidTests := true, laidLooks := .later }
def FlowGapCardSaid : Prop := Claim7.holds Tryd.pinned (.plain (OpenSpec.ofChange flowGapSpec)) flowGapCard

/-- THE TIED CARD OF 'bellwetherlaw18.FlowQuiet'. -/
def flowQuietCard : Claim7 := { stood := { row := flowQuietRow, standIns := [], harness := (true, "01568492e726bc72e25167674e1021d88b6d9f3c3a07043bcae3be2ffb9debff"), looks := true }, kinds := [], alts := [], laidByText := true, laidKinds := [.handle], laidTests := true, laidLooks := .later }
def FlowQuietCardSaid : Prop := Claim7.holds Tryd.pinned (.plain (OpenSpec.ofChange flowQuietSpec)) flowQuietCard

/-- THE TIED CARD OF 'bellwetherlaw18.FlowCatches'. -/
def flowCatchesCard : Claim7 := { stood := { row := flowCatchesRow, standIns := [], harness := (true, "01568492e726bc72e25167674e1021d88b6d9f3c3a07043bcae3be2ffb9debff"), looks := true }, kinds := [], alts := [], laidByText := true, laidKinds := [.handle], laidTests := true, laidLooks := .later }
def FlowCatchesCardSaid : Prop := Claim7.holds Tryd.pinned (.plain (OpenSpec.ofChange flowCatchesSpec)) flowCatchesCard

/-- THE SECOND FORM's CARD OF 'bellwetherlaw18.FlowOnce'. -/
def flowOnceUptoCard : Claim7 := { stood := { row := flowOnceUptoRow, standIns := [], harness := (true, "01568492e726bc72e25167674e1021d88b6d9f3c3a07043bcae3be2ffb9debff"), looks := true }, kinds := [], alts := [], laidByText := true, laidKinds := [.handle], laidTests := true, laidLooks := .later }
def FlowOnceUptoCardSaid : Prop := Claim7.holds Tryd.pinned (.plain (OpenSpec.upto flowOnceSpec)) flowOnceUptoCard

/-- THE SECOND FORM's CARD OF 'bellwetherlaw18.FlowGap'. -/
def flowGapUptoCard : Claim7 := { stood := { row := flowGapUptoRow, standIns := [], harness := (true, "01568492e726bc72e25167674e1021d88b6d9f3c3a07043bcae3be2ffb9debff"), looks := true }, kinds := [], alts := [], laidByText := true, laidKinds := [.handle], laidTests := true, laidLooks := .later }
def FlowGapUptoCardSaid : Prop := Claim7.holds Tryd.pinned (.plain (OpenSpec.upto flowGapSpec)) flowGapUptoCard

/-- THE SECOND FORM's CARD OF 'bellwetherlaw18.FlowQuiet'. -/
def flowQuietUptoCard : Claim7 := { stood := { row := flowQuietUptoRow, standIns := [], harness := (true, "01568492e726bc72e25167674e1021d88b6d9f3c3a07043bcae3be2ffb9debff"), looks := true }, kinds := [], alts := [], laidByText := true, laidKinds := [.handle], laidTests := true, laidLooks := .later }
def FlowQuietUptoCardSaid : Prop := Claim7.holds Tryd.pinned (.plain (OpenSpec.upto flowQuietSpec)) flowQuietUptoCard

/-- THE SECOND FORM's CARD OF 'bellwetherlaw18.FlowCatches'. -/
def flowCatchesUptoCard : Claim7 := { stood := { row := flowCatchesUptoRow, standIns := [], harness := (true, "01568492e726bc72e25167674e1021d88b6d9f3c3a07043bcae3be2ffb9debff"), looks := true }, kinds := [], alts := [], laidByText := true, laidKinds := [.handle], laidTests := true, laidLooks := .later }
def FlowCatchesUptoCardSaid : Prop := Claim7.holds Tryd.pinned (.plain (OpenSpec.upto flowCatchesSpec)) flowCatchesUptoCard
end Rows
end Go.Proofs.YtkfcbpbnoeaheaaDoor
