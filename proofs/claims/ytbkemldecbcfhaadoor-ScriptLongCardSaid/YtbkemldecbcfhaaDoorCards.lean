/-
  DERIVED. GIVEN WITH THE SEED: THE CARDS: each row of YtbkemldecbcfhaaDoorRows.lean that lists a variable, with what it lists TIED to the program's text (the seventh form; the later family's looks); each row that meets fmt, with fmt's text TOLD by the authors' own Lean function (tested against real Go, not proved from fmt's source: count such statements apart). THE CARD IS WHAT COUNTS. Prove the row's statement (the work); the ties are given (YtbkemldecbcfhaaDoorTie.lean); close each card by the builder's one call (the guide's Derived/Test/ToyasCard.lean, 'card_holds'). Laid BY PROGRAM, IN A SANDBOX (cutbox-door.mjs). By AI agents, Wed Nov 11 2026. No macro, syntax, notation, axiom, sorry.
-/
import Derived.Test.YtbkemldecbcfhaaDoorRows
import GoSem.ClaimSeven
namespace Go.Proofs.YtbkemldecbcfhaaDoor
namespace Rows

/-- THE TIED CARD OF 'bellwetherlaw09.ScriptExact'. -/
def scriptExactCard : Claim7 := { stood := { row := scriptExactRow, standIns := [], harness := (true, "533175e653b1b06479a6ffbc7fc2de12272785e324958cacbb26528dda4edc35"), looks := true }, kinds := [], alts := [], laidByText := true, laidKinds := [.handle], laidTests := true, laidLooks := .later }
def ScriptExactCardSaid : Prop := Claim7.holds Tryd.pinned (.plain (OpenSpec.ofChange scriptExactSpec)) scriptExactCard

/-- THE TIED CARD OF 'bellwetherlaw09.ScriptBack'. -/
def scriptBackCard : Claim7 := { stood := { row := scriptBackRow, standIns := [], harness := (true, "533175e653b1b06479a6ffbc7fc2de12272785e324958cacbb26528dda4edc35"), looks := true }, kinds := [], alts := [], laidByText := true, laidKinds := [.handle], laidTests := true, laidLooks := .later }
def ScriptBackCardSaid : Prop := Claim7.holds Tryd.pinned (.plain (OpenSpec.ofChange scriptBackSpec)) scriptBackCard

/-- THE TIED CARD OF 'bellwetherlaw09.ScriptBounds'. -/
def scriptBoundsCard : Claim7 := { stood := { row := scriptBoundsRow, standIns := [], harness := (true, "533175e653b1b06479a6ffbc7fc2de12272785e324958cacbb26528dda4edc35"), looks := true }, kinds := [], alts := [], laidByText := true, laidKinds := [.handle], laidTests := true, laidLooks := .later }
def ScriptBoundsCardSaid : Prop := Claim7.holds Tryd.pinned (.plain (OpenSpec.ofChange scriptBoundsSpec)) scriptBoundsCard

/-- THE TIED CARD OF 'bellwetherlaw09.ScriptLong'. -/
def scriptLongCard : Claim7 := { stood := { row := scriptLongRow, standIns := [], harness := (true, "533175e653b1b06479a6ffbc7fc2de12272785e324958cacbb26528dda4edc35"), looks := true }, kinds := [], alts := [], laidByText := true, laidKinds := [.handle], laidTests := true, laidLooks := .later }
def ScriptLongCardSaid : Prop := Claim7.holds Tryd.pinned (.plain (OpenSpec.ofChange scriptLongSpec)) scriptLongCard

/-- THE TIED CARD OF 'bellwetherlaw09.ScriptConfs'. -/
def scriptConfsCard : Claim7 := { stood := { row := scriptConfsRow, standIns := [], harness := (true, "533175e653b1b06479a6ffbc7fc2de12272785e324958cacbb26528dda4edc35"), looks := true }, kinds := [], alts := [], laidByText := true, laidKinds := [.handle], laidTests := true, laidLooks := .later }
def ScriptConfsCardSaid : Prop := Claim7.holds Tryd.pinned (.plain (OpenSpec.ofChange scriptConfsSpec)) scriptConfsCard

/-- THE SECOND FORM's CARD OF 'bellwetherlaw09.ScriptExact'. -/
def scriptExactUptoCard : Claim7 := { stood := { row := scriptExactUptoRow, standIns := [], harness := (true, "533175e653b1b06479a6ffbc7fc2de12272785e324958cacbb26528dda4edc35"), looks := true }, kinds := [], alts := [], laidByText := true, laidKinds := [.handle], laidTests := true, laidLooks := .later }
def ScriptExactUptoCardSaid : Prop := Claim7.holds Tryd.pinned (.plain (OpenSpec.upto scriptExactSpec)) scriptExactUptoCard

/-- THE SECOND FORM's CARD OF 'bellwetherlaw09.ScriptBack'. -/
def scriptBackUptoCard : Claim7 := { stood := { row := scriptBackUptoRow, standIns := [], harness := (true, "533175e653b1b06479a6ffbc7fc2de12272785e324958cacbb26528dda4edc35"), looks := true }, kinds := [], alts := [], laidByText := true, laidKinds := [.handle], laidTests := true, laidLooks := .later }
def ScriptBackUptoCardSaid : Prop := Claim7.holds Tryd.pinned (.plain (OpenSpec.upto scriptBackSpec)) scriptBackUptoCard

/-- THE SECOND FORM's CARD OF 'bellwetherlaw09.ScriptBounds'. -/
def scriptBoundsUptoCard : Claim7 := { stood := { row := scriptBoundsUptoRow, standIns := [], harness := (true, "533175e653b1b06479a6ffbc7fc2de12272785e324958cacbb26528dda4edc35"), looks := true }, kinds := [], alts := [], laidByText := true, laidKinds := [.handle], laidTests := true, laidLooks := .later }
def ScriptBoundsUptoCardSaid : Prop := Claim7.holds Tryd.pinned (.plain (OpenSpec.upto scriptBoundsSpec)) scriptBoundsUptoCard

/-- THE SECOND FORM's CARD OF 'bellwetherlaw09.ScriptLong'. -/
def scriptLongUptoCard : Claim7 := { stood := { row := scriptLongUptoRow, standIns := [], harness := (true, "533175e653b1b06479a6ffbc7fc2de12272785e324958cacbb26528dda4edc35"), looks := true }, kinds := [], alts := [], laidByText := true, laidKinds := [.handle], laidTests := true, laidLooks := .later }
def ScriptLongUptoCardSaid : Prop := Claim7.holds Tryd.pinned (.plain (OpenSpec.upto scriptLongSpec)) scriptLongUptoCard

/-- THE SECOND FORM's CARD OF 'bellwetherlaw09.ScriptConfs'. -/
def scriptConfsUptoCard : Claim7 := { stood := { row := scriptConfsUptoRow, standIns := [], harness := (true, "533175e653b1b06479a6ffbc7fc2de12272785e324958cacbb26528dda4edc35"), looks := true }, kinds := [], alts := [], laidByText := true, laidKinds := [.handle], laidTests := true, laidLooks := .later }
def ScriptConfsUptoCardSaid : Prop := Claim7.holds Tryd.pinned (.plain (OpenSpec.upto scriptConfsSpec)) scriptConfsUptoCard
end Rows
end Go.Proofs.YtbkemldecbcfhaaDoor
