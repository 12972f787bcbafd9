/-
  DERIVED. GIVEN WITH THE SEED: THE CARDS: each row of YtdflglehippoiaaGreatDoorRows.lean that lists a variable, with what it lists TIED to the program's text (the seventh form; the later family's looks); each row that meets fmt, with fmt's text TOLD by the authors' own Lean function (tested against real Go, not proved from fmt's source: count such statements apart). THE CARD IS WHAT COUNTS. Prove the row's statement (the work); the ties are given (YtdflglehippoiaaGreatDoorTie.lean); close each card by the builder's one call (the guide's Derived/Test/ToyasCard.lean, 'card_holds'). Laid BY PROGRAM, IN A SANDBOX (cutbox-door.mjs). By AI agents, Wed Nov 11 2026. No macro, syntax, notation, axiom, sorry.
-/
import Derived.Test.YtdflglehippoiaaGreatDoorRows
import GoSem.ClaimSeven
namespace Go.Proofs.YtdflglehippoiaaGreatDoor
namespace Rows

/-- THE TIED CARD OF 'bellwetherlaw20.RootEpoch'. -/
def rootEpochCard : Claim7 := { stood := { row := rootEpochRow, standIns := [], harness := (true, "1aed33a9a9544037f3a2ed5a58dcb57c1918a5c8ae2b0245bfb0b2545085e35d"), looks := true }, kinds := [], alts := [], laidByText := true, laidKinds := [.handle], laidTests := true, laidLooks := .later }
def RootEpochCardSaid : Prop := Claim7.holds Tryz.pinned (.plain (OpenSpec.ofChange rootEpochSpec)) rootEpochCard

/-- THE TIED CARD OF 'bellwetherlaw20.RootNumbers'. -/
def rootNumbersCard : Claim7 := { stood := { row := rootNumbersRow, standIns := [], harness := (true, "1aed33a9a9544037f3a2ed5a58dcb57c1918a5c8ae2b0245bfb0b2545085e35d"), looks := true }, kinds := [], alts := [], laidByText := true, laidKinds := [.handle], laidTests := true, laidLooks := .later }
def RootNumbersCardSaid : Prop := Claim7.holds Tryz.pinned (.plain (OpenSpec.ofChange rootNumbersSpec)) rootNumbersCard

/-- THE TIED CARD OF 'bellwetherlaw20.RootTurns'. -/
def rootTurnsCard : Claim7 := { stood := { row := rootTurnsRow, standIns := [], harness := (true, "1aed33a9a9544037f3a2ed5a58dcb57c1918a5c8ae2b0245bfb0b2545085e35d"), looks := true }, kinds := [], alts := [], laidByText := true, laidKinds := [.handle], laidTests := true, laidLooks := .later }
def RootTurnsCardSaid : Prop := Claim7.holds Tryz.pinned (.plain (OpenSpec.ofChange rootTurnsSpec)) rootTurnsCard

/-- THE TIED CARD OF 'bellwetherlaw19.GraftAsks'. -/
def graftAsksCard : Claim7 := { stood := { row := graftAsksRow, standIns := [], harness := (true, "1aed33a9a9544037f3a2ed5a58dcb57c1918a5c8ae2b0245bfb0b2545085e35d"), looks := true }, kinds := [], alts := [], laidByText := true, laidKinds := [.handle], laidTests := true, laidLooks := .later }
def GraftAsksCardSaid : Prop := Claim7.holds Tryz.pinned (.plain (OpenSpec.ofChange graftAsksSpec)) graftAsksCard

/-- THE TIED CARD OF 'bellwetherlaw19.GraftAck'. -/
def graftAckCard : Claim7 := { stood := { row := graftAckRow, standIns := [], harness := (true, "1aed33a9a9544037f3a2ed5a58dcb57c1918a5c8ae2b0245bfb0b2545085e35d"), looks := true }, kinds := [], alts := [], laidByText := true, laidKinds := [.handle], laidTests := true, laidLooks := .later }
def GraftAckCardSaid : Prop := Claim7.holds Tryz.pinned (.plain (OpenSpec.ofChange graftAckSpec)) graftAckCard

/-- THE TIED CARD OF 'bellwetherlaw19.GraftDeep'. -/
def graftDeepCard : Claim7 := { stood := { row := graftDeepRow, standIns := [], harness := (true, "1aed33a9a9544037f3a2ed5a58dcb57c1918a5c8ae2b0245bfb0b2545085e35d"), looks := true }, kinds := [], alts := [], laidByText := true, laidKinds := [.handle], laidTests := true, laidLooks := .later }
def GraftDeepCardSaid : Prop := Claim7.holds Tryz.pinned (.plain (OpenSpec.ofChange graftDeepSpec)) graftDeepCard

/-- THE TIED CARD OF 'bellwetherlaw19.GraftAll'. -/
def graftAllCard : Claim7 := { stood := { row := graftAllRow, standIns := [], harness := (true, "1aed33a9a9544037f3a2ed5a58dcb57c1918a5c8ae2b0245bfb0b2545085e35d"), looks := true }, kinds := [], alts := [], laidByText := true, laidKinds := [.handle], laidTests := true, laidLooks := .later }
def GraftAllCardSaid : Prop := Claim7.holds Tryz.pinned (.plain (OpenSpec.ofChange graftAllSpec)) graftAllCard

/-- THE TIED CARD OF 'bellwetherlaw19.GraftExact'. -/
def graftExactCard : Claim7 := { stood := { row := graftExactRow, standIns := [], harness := (true, "1aed33a9a9544037f3a2ed5a58dcb57c1918a5c8ae2b0245bfb0b2545085e35d"), looks := true }, kinds := [], alts := [], laidByText := true, laidKinds := [.handle], laidTests := true, laidLooks := .later }
def GraftExactCardSaid : Prop := Claim7.holds Tryz.pinned (.plain (OpenSpec.ofChange graftExactSpec)) graftExactCard

/-- THE TIED CARD OF 'bellwetherlaw19.GraftRight'. -/
def graftRightCard : Claim7 := { stood := { row := graftRightRow, standIns := [], harness := (true, "1aed33a9a9544037f3a2ed5a58dcb57c1918a5c8ae2b0245bfb0b2545085e35d"), looks := true }, kinds := [], alts := [], laidByText := true, laidKinds := [.handle], laidTests := true, laidLooks := .later }
def GraftRightCardSaid : Prop := Claim7.holds Tryz.pinned (.plain (OpenSpec.ofChange graftRightSpec)) graftRightCard

/-- THE TIED CARD OF 'bellwetherlaw19.GraftLost'. -/
def graftLostCard : Claim7 := { stood := { row := graftLostRow, standIns := [], harness := (true, "1aed33a9a9544037f3a2ed5a58dcb57c1918a5c8ae2b0245bfb0b2545085e35d"), looks := true }, kinds := [], alts := [], laidByText := true, laidKinds := [.handle], laidTests := true, laidLooks := .later }
def GraftLostCardSaid : Prop := Claim7.holds Tryz.pinned (.plain (OpenSpec.ofChange graftLostSpec)) graftLostCard

/-- THE SECOND FORM's CARD OF 'bellwetherlaw20.RootEpoch'. -/
def rootEpochUptoCard : Claim7 := { stood := { row := rootEpochUptoRow, standIns := [], harness := (true, "1aed33a9a9544037f3a2ed5a58dcb57c1918a5c8ae2b0245bfb0b2545085e35d"), looks := true }, kinds := [], alts := [], laidByText := true, laidKinds := [.handle], laidTests := true, laidLooks := .later }
def RootEpochUptoCardSaid : Prop := Claim7.holds Tryz.pinned (.plain (OpenSpec.upto rootEpochSpec)) rootEpochUptoCard

/-- THE SECOND FORM's CARD OF 'bellwetherlaw20.RootNumbers'. -/
def rootNumbersUptoCard : Claim7 := { stood := { row := rootNumbersUptoRow, standIns := [], harness := (true, "1aed33a9a9544037f3a2ed5a58dcb57c1918a5c8ae2b0245bfb0b2545085e35d"), looks := true }, kinds := [], alts := [], laidByText := true, laidKinds := [.handle], laidTests := true, laidLooks := .later }
def RootNumbersUptoCardSaid : Prop := Claim7.holds Tryz.pinned (.plain (OpenSpec.upto rootNumbersSpec)) rootNumbersUptoCard

/-- THE SECOND FORM's CARD OF 'bellwetherlaw20.RootTurns'. -/
def rootTurnsUptoCard : Claim7 := { stood := { row := rootTurnsUptoRow, standIns := [], harness := (true, "1aed33a9a9544037f3a2ed5a58dcb57c1918a5c8ae2b0245bfb0b2545085e35d"), looks := true }, kinds := [], alts := [], laidByText := true, laidKinds := [.handle], laidTests := true, laidLooks := .later }
def RootTurnsUptoCardSaid : Prop := Claim7.holds Tryz.pinned (.plain (OpenSpec.upto rootTurnsSpec)) rootTurnsUptoCard

/-- THE SECOND FORM's CARD OF 'bellwetherlaw19.GraftAsks'. -/
def graftAsksUptoCard : Claim7 := { stood := { row := graftAsksUptoRow, standIns := [], harness := (true, "1aed33a9a9544037f3a2ed5a58dcb57c1918a5c8ae2b0245bfb0b2545085e35d"), looks := true }, kinds := [], alts := [], laidByText := true, laidKinds := [.handle], laidTests := true, laidLooks := .later }
def GraftAsksUptoCardSaid : Prop := Claim7.holds Tryz.pinned (.plain (OpenSpec.upto graftAsksSpec)) graftAsksUptoCard

/-- THE SECOND FORM's CARD OF 'bellwetherlaw19.GraftAck'. -/
def graftAckUptoCard : Claim7 := { stood := { row := graftAckUptoRow, standIns := [], harness := (true, "1aed33a9a9544037f3a2ed5a58dcb57c1918a5c8ae2b0245bfb0b2545085e35d"), looks := true }, kinds := [], alts := [], laidByText := true, laidKinds := [.handle], laidTests := true, laidLooks := .later }
def GraftAckUptoCardSaid : Prop := Claim7.holds Tryz.pinned (.plain (OpenSpec.upto graftAckSpec)) graftAckUptoCard

/-- THE SECOND FORM's CARD OF 'bellwetherlaw19.GraftDeep'. -/
def graftDeepUptoCard : Claim7 := { stood := { row := graftDeepUptoRow, standIns := [], harness := (true, "1aed33a9a9544037f3a2ed5a58dcb57c1918a5c8ae2b0245bfb0b2545085e35d"), looks := true }, kinds := [], alts := [], laidByText := true, laidKinds := [.handle], laidTests := true, laidLooks := .later }
def GraftDeepUptoCardSaid : Prop := Claim7.holds Tryz.pinned (.plain (OpenSpec.upto graftDeepSpec)) graftDeepUptoCard

/-- THE SECOND FORM's CARD OF 'bellwetherlaw19.GraftAll'. -/
def graftAllUptoCard : Claim7 := { stood := { row := graftAllUptoRow, standIns := [], harness := (true, "1aed33a9a9544037f3a2ed5a58dcb57c1918a5c8ae2b0245bfb0b2545085e35d"), looks := true }, kinds := [], alts := [], laidByText := true, laidKinds := [.handle], laidTests := true, laidLooks := .later }
def GraftAllUptoCardSaid : Prop := Claim7.holds Tryz.pinned (.plain (OpenSpec.upto graftAllSpec)) graftAllUptoCard

/-- THE SECOND FORM's CARD OF 'bellwetherlaw19.GraftExact'. -/
def graftExactUptoCard : Claim7 := { stood := { row := graftExactUptoRow, standIns := [], harness := (true, "1aed33a9a9544037f3a2ed5a58dcb57c1918a5c8ae2b0245bfb0b2545085e35d"), looks := true }, kinds := [], alts := [], laidByText := true, laidKinds := [.handle], laidTests := true, laidLooks := .later }
def GraftExactUptoCardSaid : Prop := Claim7.holds Tryz.pinned (.plain (OpenSpec.upto graftExactSpec)) graftExactUptoCard

/-- THE SECOND FORM's CARD OF 'bellwetherlaw19.GraftRight'. -/
def graftRightUptoCard : Claim7 := { stood := { row := graftRightUptoRow, standIns := [], harness := (true, "1aed33a9a9544037f3a2ed5a58dcb57c1918a5c8ae2b0245bfb0b2545085e35d"), looks := true }, kinds := [], alts := [], laidByText := true, laidKinds := [.handle], laidTests := true, laidLooks := .later }
def GraftRightUptoCardSaid : Prop := Claim7.holds Tryz.pinned (.plain (OpenSpec.upto graftRightSpec)) graftRightUptoCard

/-- THE SECOND FORM's CARD OF 'bellwetherlaw19.GraftLost'. -/
def graftLostUptoCard : Claim7 := { stood := { row := graftLostUptoRow, standIns := [], harness := (true, "1aed33a9a9544037f3a2ed5a58dcb57c1918a5c8ae2b0245bfb0b2545085e35d"), looks := true }, kinds := [], alts := [], laidByText := true, laidKinds := [.handle], laidTests := true, laidLooks := .later }
def GraftLostUptoCardSaid : Prop := Claim7.holds Tryz.pinned (.plain (OpenSpec.upto graftLostSpec)) graftLostUptoCard
end Rows
end Go.Proofs.YtdflglehippoiaaGreatDoor
