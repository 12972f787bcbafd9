/-
  NARROWER THAN 'FOR EVERY INPUT', by the rows' own cells (each row's printed sentence says how): FlowExact: laid · FlowEpochs: laid · RootExact: laid · RootEpoch: laid · RootNumbers: laid · RootTurns: laid.
  DERIVED. THE GIVEN ROWS OF THIS SEAT. 6 by the template 'for every input the law returns true; each argument reads behind the call as it read before'; 0 by the template 'total and deterministic' (their statements: YtkfcbpbnoeaheaaGreatDoorTotals.lean).
  GIVEN WITH THE SEED: the statements are not yours to turn. If you find one false, say at which input.
  Laid BY PROGRAM, IN A SANDBOX (cutbox-rows.mjs): the forced cells as the released guide's own fill.sh prints them over the translation f9ea985e859b9f6d… (all of the seat's roots in one cut). By AI agents, Wed Nov 11 2026. No macro, syntax, notation, axiom, sorry.
-/
import Derived.Test.YtkfcbpbnoeaheaaGreatDoorChecked
import GoSem.Claim
import GoSem.ClaimJoined
import GoSem.ClaimMapViews
import Derived.JoinedTies
import Derived.KernelRfl
namespace Go.Proofs.YtkfcbpbnoeaheaaGreatDoor
/- THE CELL 'sum', in the pinned program and in every row, IS THE sha256 OF THE DUMP (.gsa) THAT YtkfcbpbnoeaheaaGreatDoorProg.lean LOADS. Nothing in Lean hashes anything: it is a label: what it is worth is what the hold of that sum in a sandbox is worth. -/
noncomputable def Tryz.pinned : Pinned := { name := "ytkfcbpbnoeaheaagreatdoor", sum := "f9ea985e859b9f6d67c42a6722ef71a6a5709fd2f83721d7cb6fbb44a07d8b78", checked := Tryz.checked }
namespace Rows
def none {H : Type} : Left H := { results := [], args := [] }

/- WHAT THE LISTED PACKAGE-LEVEL VARIABLES READ AS WHEN THE CALL BEGINS. Each datum BY PROGRAM (the guide's laid-datum.mjs) off the statement by which the dump's own 'gosem.cut.vars' lays the variable. In a bare row this is a premise. The card (YtkfcbpbnoeaheaaGreatDoorCards.lean) ties it to the program's text. -/
def laid_errors_errorType {H : Type} : DataW H := .iface "internal/reflectlite.rtype" (.agg [.ptr (.lit (.string [101, 114, 114, 111, 114]))])

/-- 'bellwetherlaw18.FlowExact': WHATEVER THE INPUT: true; the input reads as it did. -/
def flowExactSpec : ChangeSpec := { name := "flowExact", fn := fun _ => fun
  | [d1, d2, d3, d4, d5, d6, d7] => { results := [.lit (.bool true)], args := [d1, d2, d3, d4, d5, d6, d7] }
  | _ => none }
def flowExactRow : OpenClaim := { program := "ytkfcbpbnoeaheaagreatdoor", sum := "f9ea985e859b9f6d67c42a6722ef71a6a5709fd2f83721d7cb6fbb44a07d8b78", func := "bellwether/bellwetherlaw18.FlowExact", spec := "flowExact", inPlace := ["internal/reflectlite.TypeOf", "internal/reflectlite.ValueOf", "(internal/reflectlite.Value).Type", "(internal/reflectlite.Value).IsNil", "(internal/reflectlite.Value).Elem", "(internal/reflectlite.Value).Set", "slices.overlaps[bellwether/api.Item]"], unfollowed := true, recurses := true, named := ["errors.errorType"], apart := false, laid := [("errors.errorType", laid_errors_errorType)] }
def FlowExactSaid : Prop := flowExactRow.holds Tryz.pinned (OpenSpec.ofChange flowExactSpec)

/-- ITS FALSE NEIGHBOUR: 'it returns false'. Refute it at one input. -/
def flowExactWrong : ChangeSpec := { name := "flowExact", fn := fun _ => fun
  | [d1, d2, d3, d4, d5, d6, d7] => { results := [.lit (.bool false)], args := [d1, d2, d3, d4, d5, d6, d7] }
  | _ => none }
def FlowExactWrongFalsely : Prop := flowExactRow.holds Tryz.pinned (OpenSpec.ofChange flowExactWrong)

/-- 'bellwetherlaw18.FlowEpochs': WHATEVER THE INPUT: true; the input reads as it did. -/
def flowEpochsSpec : ChangeSpec := { name := "flowEpochs", fn := fun _ => fun
  | [d1, d2, d3, d4, d5, d6, d7] => { results := [.lit (.bool true)], args := [d1, d2, d3, d4, d5, d6, d7] }
  | _ => none }
def flowEpochsRow : OpenClaim := { program := "ytkfcbpbnoeaheaagreatdoor", sum := "f9ea985e859b9f6d67c42a6722ef71a6a5709fd2f83721d7cb6fbb44a07d8b78", func := "bellwether/bellwetherlaw18.FlowEpochs", spec := "flowEpochs", inPlace := ["internal/reflectlite.TypeOf", "internal/reflectlite.ValueOf", "(internal/reflectlite.Value).Type", "(internal/reflectlite.Value).IsNil", "(internal/reflectlite.Value).Elem", "(internal/reflectlite.Value).Set", "slices.overlaps[bellwether/api.Item]"], unfollowed := true, recurses := true, named := ["errors.errorType"], apart := false, laid := [("errors.errorType", laid_errors_errorType)] }
def FlowEpochsSaid : Prop := flowEpochsRow.holds Tryz.pinned (OpenSpec.ofChange flowEpochsSpec)

/-- ITS FALSE NEIGHBOUR: 'it returns false'. Refute it at one input. -/
def flowEpochsWrong : ChangeSpec := { name := "flowEpochs", fn := fun _ => fun
  | [d1, d2, d3, d4, d5, d6, d7] => { results := [.lit (.bool false)], args := [d1, d2, d3, d4, d5, d6, d7] }
  | _ => none }
def FlowEpochsWrongFalsely : Prop := flowEpochsRow.holds Tryz.pinned (OpenSpec.ofChange flowEpochsWrong)

/-- 'bellwetherlaw20.RootExact': WHATEVER THE INPUT: true; the input reads as it did. -/
def rootExactSpec : ChangeSpec := { name := "rootExact", fn := fun _ => fun
  | [d1, d2, d3, d4, d5] => { results := [.lit (.bool true)], args := [d1, d2, d3, d4, d5] }
  | _ => none }
def rootExactRow : OpenClaim := { program := "ytkfcbpbnoeaheaagreatdoor", sum := "f9ea985e859b9f6d67c42a6722ef71a6a5709fd2f83721d7cb6fbb44a07d8b78", func := "bellwether/bellwetherlaw20.RootExact", spec := "rootExact", inPlace := ["internal/reflectlite.TypeOf", "internal/reflectlite.ValueOf", "(internal/reflectlite.Value).Type", "(internal/reflectlite.Value).IsNil", "(internal/reflectlite.Value).Elem", "(internal/reflectlite.Value).Set", "slices.overlaps[bellwether/api.Item]"], unfollowed := true, recurses := true, named := ["errors.errorType"], apart := false, laid := [("errors.errorType", laid_errors_errorType)] }
def RootExactSaid : Prop := rootExactRow.holds Tryz.pinned (OpenSpec.ofChange rootExactSpec)

/-- ITS FALSE NEIGHBOUR: 'it returns false'. Refute it at one input. -/
def rootExactWrong : ChangeSpec := { name := "rootExact", fn := fun _ => fun
  | [d1, d2, d3, d4, d5] => { results := [.lit (.bool false)], args := [d1, d2, d3, d4, d5] }
  | _ => none }
def RootExactWrongFalsely : Prop := rootExactRow.holds Tryz.pinned (OpenSpec.ofChange rootExactWrong)

/-- 'bellwetherlaw20.RootEpoch': WHATEVER THE INPUT: true; the input reads as it did. -/
def rootEpochSpec : ChangeSpec := { name := "rootEpoch", fn := fun _ => fun
  | [d1, d2, d3, d4] => { results := [.lit (.bool true)], args := [d1, d2, d3, d4] }
  | _ => none }
def rootEpochRow : OpenClaim := { program := "ytkfcbpbnoeaheaagreatdoor", sum := "f9ea985e859b9f6d67c42a6722ef71a6a5709fd2f83721d7cb6fbb44a07d8b78", func := "bellwether/bellwetherlaw20.RootEpoch", spec := "rootEpoch", inPlace := ["internal/reflectlite.TypeOf", "internal/reflectlite.ValueOf", "(internal/reflectlite.Value).Type", "(internal/reflectlite.Value).IsNil", "(internal/reflectlite.Value).Elem", "(internal/reflectlite.Value).Set", "slices.overlaps[bellwether/api.Item]"], unfollowed := true, recurses := true, named := ["errors.errorType"], apart := false, laid := [("errors.errorType", laid_errors_errorType)] }
def RootEpochSaid : Prop := rootEpochRow.holds Tryz.pinned (OpenSpec.ofChange rootEpochSpec)

/-- ITS FALSE NEIGHBOUR: 'it returns false'. Refute it at one input. -/
def rootEpochWrong : ChangeSpec := { name := "rootEpoch", fn := fun _ => fun
  | [d1, d2, d3, d4] => { results := [.lit (.bool false)], args := [d1, d2, d3, d4] }
  | _ => none }
def RootEpochWrongFalsely : Prop := rootEpochRow.holds Tryz.pinned (OpenSpec.ofChange rootEpochWrong)

/-- 'bellwetherlaw20.RootNumbers': WHATEVER THE INPUT: true; the input reads as it did. -/
def rootNumbersSpec : ChangeSpec := { name := "rootNumbers", fn := fun _ => fun
  | [d1, d2, d3, d4, d5] => { results := [.lit (.bool true)], args := [d1, d2, d3, d4, d5] }
  | _ => none }
def rootNumbersRow : OpenClaim := { program := "ytkfcbpbnoeaheaagreatdoor", sum := "f9ea985e859b9f6d67c42a6722ef71a6a5709fd2f83721d7cb6fbb44a07d8b78", func := "bellwether/bellwetherlaw20.RootNumbers", spec := "rootNumbers", inPlace := ["internal/reflectlite.TypeOf", "internal/reflectlite.ValueOf", "(internal/reflectlite.Value).Type", "(internal/reflectlite.Value).IsNil", "(internal/reflectlite.Value).Elem", "(internal/reflectlite.Value).Set", "slices.overlaps[bellwether/api.Item]"], unfollowed := true, recurses := true, named := ["errors.errorType"], apart := false, laid := [("errors.errorType", laid_errors_errorType)] }
def RootNumbersSaid : Prop := rootNumbersRow.holds Tryz.pinned (OpenSpec.ofChange rootNumbersSpec)

/-- ITS FALSE NEIGHBOUR: 'it returns false'. Refute it at one input. -/
def rootNumbersWrong : ChangeSpec := { name := "rootNumbers", fn := fun _ => fun
  | [d1, d2, d3, d4, d5] => { results := [.lit (.bool false)], args := [d1, d2, d3, d4, d5] }
  | _ => none }
def RootNumbersWrongFalsely : Prop := rootNumbersRow.holds Tryz.pinned (OpenSpec.ofChange rootNumbersWrong)

/-- 'bellwetherlaw20.RootTurns': WHATEVER THE INPUT: true; the input reads as it did. -/
def rootTurnsSpec : ChangeSpec := { name := "rootTurns", fn := fun _ => fun
  | [d1, d2] => { results := [.lit (.bool true)], args := [d1, d2] }
  | _ => none }
def rootTurnsRow : OpenClaim := { program := "ytkfcbpbnoeaheaagreatdoor", sum := "f9ea985e859b9f6d67c42a6722ef71a6a5709fd2f83721d7cb6fbb44a07d8b78", func := "bellwether/bellwetherlaw20.RootTurns", spec := "rootTurns", inPlace := ["internal/reflectlite.TypeOf", "internal/reflectlite.ValueOf", "(internal/reflectlite.Value).Type", "(internal/reflectlite.Value).IsNil", "(internal/reflectlite.Value).Elem", "(internal/reflectlite.Value).Set", "slices.overlaps[bellwether/api.Item]"], unfollowed := true, recurses := true, named := ["errors.errorType"], apart := false, laid := [("errors.errorType", laid_errors_errorType)] }
def RootTurnsSaid : Prop := rootTurnsRow.holds Tryz.pinned (OpenSpec.ofChange rootTurnsSpec)

/-- ITS FALSE NEIGHBOUR: 'it returns false'. Refute it at one input. -/
def rootTurnsWrong : ChangeSpec := { name := "rootTurns", fn := fun _ => fun
  | [d1, d2] => { results := [.lit (.bool false)], args := [d1, d2] }
  | _ => none }
def RootTurnsWrongFalsely : Prop := rootTurnsRow.holds Tryz.pinned (OpenSpec.ofChange rootTurnsWrong)

/- THE SECOND FORM. 'bulk': how many values and letters a reading holds, each counted each time it is reached (what is shared counts as often as it is met; a slice's spare places count too). A statement '..UptoSaid' is the law's where the arguments, and the package variables that the reading takes, are together of bulk at most 1048576: NARROWER than '..Said'. Prove '..Said' where nothing that the law and all that it calls make is longer than what came in: it says more and counts as full. Else prove '..UptoSaid'. A law counts once. -/
mutual
def uptoBulk {H : Type} : DataW H → Nat
  | .lit (.string bytes) => bytes.length + 1
  | .lit _ => 1
  | .nil => 1
  | .ptr d => uptoBulk d + 1
  | .slice elems spare => uptoBulkAll elems + uptoBulkAll spare + 1
  | .agg parts => uptoBulkAll parts + 1
  | .iface _ d => uptoBulk d + 1
  | .map entries => uptoBulkEntries entries + 1
  | .held _ => 1
def uptoBulkAll {H : Type} : List (DataW H) → Nat
  | [] => 0
  | d :: r => uptoBulk d + uptoBulkAll r
def uptoBulkEntries {H : Type} : List (Lit × DataW H) → Nat
  | [] => 0
  | x :: r => uptoBulkEntry x + uptoBulkEntries r
def uptoBulkEntry {H : Type} : Lit × DataW H → Nat
  | (.string bytes, d) => bytes.length + uptoBulk d + 1
  | (_, d) => uptoBulk d + 1
 end
def uptoSmall : (H : Type) → List (DataW H) → Bool := fun _ ds => decide (uptoBulkAll ds ≤ 1048576)
def OpenSpec.upto (s : _root_.Go.ChangeSpec) : _root_.Go.OpenSpec := { _root_.Go.OpenSpec.ofChange s with cond := some uptoSmall }

/-- 'bellwetherlaw18.FlowExact', WHERE WHAT IT READS IS OF BULK AT MOST 1048576: true; the input reads as it did. -/
def flowExactUptoRow : OpenClaim := { program := "ytkfcbpbnoeaheaagreatdoor", sum := "f9ea985e859b9f6d67c42a6722ef71a6a5709fd2f83721d7cb6fbb44a07d8b78", func := "bellwether/bellwetherlaw18.FlowExact", spec := "flowExact", inPlace := ["internal/reflectlite.TypeOf", "internal/reflectlite.ValueOf", "(internal/reflectlite.Value).Type", "(internal/reflectlite.Value).IsNil", "(internal/reflectlite.Value).Elem", "(internal/reflectlite.Value).Set", "slices.overlaps[bellwether/api.Item]"], unfollowed := true, recurses := true, named := ["errors.errorType"], apart := false, laid := [("errors.errorType", laid_errors_errorType)], narrowed := true }
def FlowExactUptoSaid : Prop := flowExactUptoRow.holds Tryz.pinned (OpenSpec.upto flowExactSpec)

/-- 'bellwetherlaw18.FlowEpochs', WHERE WHAT IT READS IS OF BULK AT MOST 1048576: true; the input reads as it did. -/
def flowEpochsUptoRow : OpenClaim := { program := "ytkfcbpbnoeaheaagreatdoor", sum := "f9ea985e859b9f6d67c42a6722ef71a6a5709fd2f83721d7cb6fbb44a07d8b78", func := "bellwether/bellwetherlaw18.FlowEpochs", spec := "flowEpochs", inPlace := ["internal/reflectlite.TypeOf", "internal/reflectlite.ValueOf", "(internal/reflectlite.Value).Type", "(internal/reflectlite.Value).IsNil", "(internal/reflectlite.Value).Elem", "(internal/reflectlite.Value).Set", "slices.overlaps[bellwether/api.Item]"], unfollowed := true, recurses := true, named := ["errors.errorType"], apart := false, laid := [("errors.errorType", laid_errors_errorType)], narrowed := true }
def FlowEpochsUptoSaid : Prop := flowEpochsUptoRow.holds Tryz.pinned (OpenSpec.upto flowEpochsSpec)

/-- 'bellwetherlaw20.RootExact', WHERE WHAT IT READS IS OF BULK AT MOST 1048576: true; the input reads as it did. -/
def rootExactUptoRow : OpenClaim := { program := "ytkfcbpbnoeaheaagreatdoor", sum := "f9ea985e859b9f6d67c42a6722ef71a6a5709fd2f83721d7cb6fbb44a07d8b78", func := "bellwether/bellwetherlaw20.RootExact", spec := "rootExact", inPlace := ["internal/reflectlite.TypeOf", "internal/reflectlite.ValueOf", "(internal/reflectlite.Value).Type", "(internal/reflectlite.Value).IsNil", "(internal/reflectlite.Value).Elem", "(internal/reflectlite.Value).Set", "slices.overlaps[bellwether/api.Item]"], unfollowed := true, recurses := true, named := ["errors.errorType"], apart := false, laid := [("errors.errorType", laid_errors_errorType)], narrowed := true }
def RootExactUptoSaid : Prop := rootExactUptoRow.holds Tryz.pinned (OpenSpec.upto rootExactSpec)

/-- 'bellwetherlaw20.RootEpoch', WHERE WHAT IT READS IS OF BULK AT MOST 1048576: true; the input reads as it did. -/
def rootEpochUptoRow : OpenClaim := { program := "ytkfcbpbnoeaheaagreatdoor", sum := "f9ea985e859b9f6d67c42a6722ef71a6a5709fd2f83721d7cb6fbb44a07d8b78", func := "bellwether/bellwetherlaw20.RootEpoch", spec := "rootEpoch", inPlace := ["internal/reflectlite.TypeOf", "internal/reflectlite.ValueOf", "(internal/reflectlite.Value).Type", "(internal/reflectlite.Value).IsNil", "(internal/reflectlite.Value).Elem", "(internal/reflectlite.Value).Set", "slices.overlaps[bellwether/api.Item]"], unfollowed := true, recurses := true, named := ["errors.errorType"], apart := false, laid := [("errors.errorType", laid_errors_errorType)], narrowed := true }
def RootEpochUptoSaid : Prop := rootEpochUptoRow.holds Tryz.pinned (OpenSpec.upto rootEpochSpec)

/-- 'bellwetherlaw20.RootNumbers', WHERE WHAT IT READS IS OF BULK AT MOST 1048576: true; the input reads as it did. -/
def rootNumbersUptoRow : OpenClaim := { program := "ytkfcbpbnoeaheaagreatdoor", sum := "f9ea985e859b9f6d67c42a6722ef71a6a5709fd2f83721d7cb6fbb44a07d8b78", func := "bellwether/bellwetherlaw20.RootNumbers", spec := "rootNumbers", inPlace := ["internal/reflectlite.TypeOf", "internal/reflectlite.ValueOf", "(internal/reflectlite.Value).Type", "(internal/reflectlite.Value).IsNil", "(internal/reflectlite.Value).Elem", "(internal/reflectlite.Value).Set", "slices.overlaps[bellwether/api.Item]"], unfollowed := true, recurses := true, named := ["errors.errorType"], apart := false, laid := [("errors.errorType", laid_errors_errorType)], narrowed := true }
def RootNumbersUptoSaid : Prop := rootNumbersUptoRow.holds Tryz.pinned (OpenSpec.upto rootNumbersSpec)

/-- 'bellwetherlaw20.RootTurns', WHERE WHAT IT READS IS OF BULK AT MOST 1048576: true; the input reads as it did. -/
def rootTurnsUptoRow : OpenClaim := { program := "ytkfcbpbnoeaheaagreatdoor", sum := "f9ea985e859b9f6d67c42a6722ef71a6a5709fd2f83721d7cb6fbb44a07d8b78", func := "bellwether/bellwetherlaw20.RootTurns", spec := "rootTurns", inPlace := ["internal/reflectlite.TypeOf", "internal/reflectlite.ValueOf", "(internal/reflectlite.Value).Type", "(internal/reflectlite.Value).IsNil", "(internal/reflectlite.Value).Elem", "(internal/reflectlite.Value).Set", "slices.overlaps[bellwether/api.Item]"], unfollowed := true, recurses := true, named := ["errors.errorType"], apart := false, laid := [("errors.errorType", laid_errors_errorType)], narrowed := true }
def RootTurnsUptoSaid : Prop := rootTurnsUptoRow.holds Tryz.pinned (OpenSpec.upto rootTurnsSpec)

end Rows
end Go.Proofs.YtkfcbpbnoeaheaaGreatDoor
