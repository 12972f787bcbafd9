/-
  NARROWER THAN 'FOR EVERY INPUT', by the rows' own cells (each row's printed sentence says how): FlowOnce: laid · FlowGap: laid · FlowQuiet: laid · FlowCatches: laid.
  DERIVED. THE GIVEN ROWS OF THIS SEAT. 4 by the template 'for every input the law returns true; each argument reads behind the call as it read before'; 0 by the template 'total and deterministic' (their statements: YtkfcbpbnoeaheaaDoorTotals.lean).
  GIVEN WITH THE SEED: the statements are not yours to turn. If you find one false, say at which input.
  Laid BY PROGRAM, IN A SANDBOX (cutbox-rows.mjs): the forced cells as the released guide's own fill.sh prints them over the translation 7188cabff986ca14… (all of the seat's roots in one cut). By AI agents, Wed Nov 11 2026. No macro, syntax, notation, axiom, sorry.
-/
import Derived.Test.YtkfcbpbnoeaheaaDoorChecked
import GoSem.Claim
import GoSem.ClaimJoined
import GoSem.ClaimMapViews
import Derived.JoinedTies
import Derived.KernelRfl
namespace Go.Proofs.YtkfcbpbnoeaheaaDoor
/- THE CELL 'sum', in the pinned program and in every row, IS THE sha256 OF THE DUMP (.gsa) THAT YtkfcbpbnoeaheaaDoorProg.lean LOADS. Nothing in Lean hashes anything: it is a label: what it is worth is what the hold of that sum in a sandbox is worth. -/
noncomputable def Tryd.pinned : Pinned := { name := "ytkfcbpbnoeaheaadoor", sum := "7188cabff986ca14f1fb7f92faca0e659b27cd584d99a0de14bcd4678247f8c9", checked := Tryd.checked }
namespace Rows
def none {H : Type} : Left H := { results := [], args := [] }

/- WHAT THE LISTED PACKAGE-LEVEL VARIABLES READ AS WHEN THE CALL BEGINS. Each datum BY PROGRAM (the guide's laid-datum.mjs) off the statement by which the dump's own 'gosem.cut.vars' lays the variable. In a bare row this is a premise. The card (YtkfcbpbnoeaheaaDoorCards.lean) ties it to the program's text. -/
def laid_errors_errorType {H : Type} : DataW H := .iface "internal/reflectlite.rtype" (.agg [.ptr (.lit (.string [101, 114, 114, 111, 114]))])

/-- 'bellwetherlaw18.FlowOnce': WHATEVER THE INPUT: true; the input reads as it did. -/
def flowOnceSpec : ChangeSpec := { name := "flowOnce", fn := fun _ => fun
  | [d1, d2, d3] => { results := [.lit (.bool true)], args := [d1, d2, d3] }
  | _ => none }
def flowOnceRow : OpenClaim := { program := "ytkfcbpbnoeaheaadoor", sum := "7188cabff986ca14f1fb7f92faca0e659b27cd584d99a0de14bcd4678247f8c9", func := "bellwether/bellwetherlaw18.FlowOnce", spec := "flowOnce", inPlace := ["internal/reflectlite.TypeOf", "internal/reflectlite.ValueOf", "(internal/reflectlite.Value).Type", "(internal/reflectlite.Value).IsNil", "(internal/reflectlite.Value).Elem", "(internal/reflectlite.Value).Set", "slices.overlaps[bellwether/api.Item]"], unfollowed := true, recurses := true, named := ["errors.errorType"], apart := false, laid := [("errors.errorType", laid_errors_errorType)] }
def FlowOnceSaid : Prop := flowOnceRow.holds Tryd.pinned (OpenSpec.ofChange flowOnceSpec)

/-- ITS FALSE NEIGHBOUR: 'it returns false'. Refute it at one input. -/
def flowOnceWrong : ChangeSpec := { name := "flowOnce", fn := fun _ => fun
  | [d1, d2, d3] => { results := [.lit (.bool false)], args := [d1, d2, d3] }
  | _ => none }
def FlowOnceWrongFalsely : Prop := flowOnceRow.holds Tryd.pinned (OpenSpec.ofChange flowOnceWrong)

/-- 'bellwetherlaw18.FlowGap': WHATEVER THE INPUT: true; the input reads as it did. -/
def flowGapSpec : ChangeSpec := { name := "flowGap", fn := fun _ => fun
  | [d1, d2, d3, d4] => { results := [.lit (.bool true)], args := [d1, d2, d3, d4] }
  | _ => none }
def flowGapRow : OpenClaim := { program := "ytkfcbpbnoeaheaadoor", sum := "7188cabff986ca14f1fb7f92faca0e659b27cd584d99a0de14bcd4678247f8c9", func := "bellwether/bellwetherlaw18.FlowGap", spec := "flowGap", inPlace := ["internal/reflectlite.TypeOf", "internal/reflectlite.ValueOf", "(internal/reflectlite.Value).Type", "(internal/reflectlite.Value).IsNil", "(internal/reflectlite.Value).Elem", "(internal/reflectlite.Value).Set", "slices.overlaps[bellwether/api.Item]"], unfollowed := true, recurses := true, named := ["errors.errorType"], apart := false, laid := [("errors.errorType", laid_errors_errorType)] }
def FlowGapSaid : Prop := flowGapRow.holds Tryd.pinned (OpenSpec.ofChange flowGapSpec)

/-- ITS FALSE NEIGHBOUR: 'it returns false'. Refute it at one input. -/
def flowGapWrong : ChangeSpec := { name := "flowGap", fn := fun _ => fun
  | [d1, d2, d3, d4] => { results := [.lit (.bool false)], args := [d1, d2, d3, d4] }
  | _ => none }
def FlowGapWrongFalsely : Prop := flowGapRow.holds Tryd.pinned (OpenSpec.ofChange flowGapWrong)

/-- 'bellwetherlaw18.FlowQuiet': WHATEVER THE INPUT: true; the input reads as it did. -/
def flowQuietSpec : ChangeSpec := { name := "flowQuiet", fn := fun _ => fun
  | [d1, d2, d3, d4, d5, d6] => { results := [.lit (.bool true)], args := [d1, d2, d3, d4, d5, d6] }
  | _ => none }
def flowQuietRow : OpenClaim := { program := "ytkfcbpbnoeaheaadoor", sum := "7188cabff986ca14f1fb7f92faca0e659b27cd584d99a0de14bcd4678247f8c9", func := "bellwether/bellwetherlaw18.FlowQuiet", spec := "flowQuiet", inPlace := ["internal/reflectlite.TypeOf", "internal/reflectlite.ValueOf", "(internal/reflectlite.Value).Type", "(internal/reflectlite.Value).IsNil", "(internal/reflectlite.Value).Elem", "(internal/reflectlite.Value).Set", "slices.overlaps[bellwether/api.Item]"], unfollowed := true, recurses := true, named := ["errors.errorType"], apart := false, laid := [("errors.errorType", laid_errors_errorType)] }
def FlowQuietSaid : Prop := flowQuietRow.holds Tryd.pinned (OpenSpec.ofChange flowQuietSpec)

/-- ITS FALSE NEIGHBOUR: 'it returns false'. Refute it at one input. -/
def flowQuietWrong : ChangeSpec := { name := "flowQuiet", fn := fun _ => fun
  | [d1, d2, d3, d4, d5, d6] => { results := [.lit (.bool false)], args := [d1, d2, d3, d4, d5, d6] }
  | _ => none }
def FlowQuietWrongFalsely : Prop := flowQuietRow.holds Tryd.pinned (OpenSpec.ofChange flowQuietWrong)

/-- 'bellwetherlaw18.FlowCatches': WHATEVER THE INPUT: true; the input reads as it did. -/
def flowCatchesSpec : ChangeSpec := { name := "flowCatches", fn := fun _ => fun
  | [d1, d2, d3] => { results := [.lit (.bool true)], args := [d1, d2, d3] }
  | _ => none }
def flowCatchesRow : OpenClaim := { program := "ytkfcbpbnoeaheaadoor", sum := "7188cabff986ca14f1fb7f92faca0e659b27cd584d99a0de14bcd4678247f8c9", func := "bellwether/bellwetherlaw18.FlowCatches", spec := "flowCatches", inPlace := ["internal/reflectlite.TypeOf", "internal/reflectlite.ValueOf", "(internal/reflectlite.Value).Type", "(internal/reflectlite.Value).IsNil", "(internal/reflectlite.Value).Elem", "(internal/reflectlite.Value).Set", "slices.overlaps[bellwether/api.Item]"], unfollowed := true, recurses := true, named := ["errors.errorType"], apart := false, laid := [("errors.errorType", laid_errors_errorType)] }
def FlowCatchesSaid : Prop := flowCatchesRow.holds Tryd.pinned (OpenSpec.ofChange flowCatchesSpec)

/-- ITS FALSE NEIGHBOUR: 'it returns false'. Refute it at one input. -/
def flowCatchesWrong : ChangeSpec := { name := "flowCatches", fn := fun _ => fun
  | [d1, d2, d3] => { results := [.lit (.bool false)], args := [d1, d2, d3] }
  | _ => none }
def FlowCatchesWrongFalsely : Prop := flowCatchesRow.holds Tryd.pinned (OpenSpec.ofChange flowCatchesWrong)

/- THE SECOND FORM. 'bulk': how many values and letters a reading holds, each counted each time it is reached (what is shared counts as often as it is met; a slice's spare places count too). A statement '..UptoSaid' is the law's where the arguments, and the package variables that the reading takes, are together of bulk at most 1048576: NARROWER than '..Said'. Prove '..Said' where nothing that the law and all that it calls make is longer than what came in: it says more and counts as full. Else prove '..UptoSaid'. A law counts once. -/
mutual
def uptoBulk {H : Type} : DataW H → Nat
  | .lit (.string bytes) => bytes.length + 1
  | .lit _ => 1
  | .nil => 1
  | .ptr d => uptoBulk d + 1
  | .slice elems spare => uptoBulkAll elems + uptoBulkAll spare + 1
  | .agg parts => uptoBulkAll parts + 1
  | .iface _ d => uptoBulk d + 1
  | .map entries => uptoBulkEntries entries + 1
  | .held _ => 1
def uptoBulkAll {H : Type} : List (DataW H) → Nat
  | [] => 0
  | d :: r => uptoBulk d + uptoBulkAll r
def uptoBulkEntries {H : Type} : List (Lit × DataW H) → Nat
  | [] => 0
  | x :: r => uptoBulkEntry x + uptoBulkEntries r
def uptoBulkEntry {H : Type} : Lit × DataW H → Nat
  | (.string bytes, d) => bytes.length + uptoBulk d + 1
  | (_, d) => uptoBulk d + 1
 end
def uptoSmall : (H : Type) → List (DataW H) → Bool := fun _ ds => decide (uptoBulkAll ds ≤ 1048576)
def OpenSpec.upto (s : _root_.Go.ChangeSpec) : _root_.Go.OpenSpec := { _root_.Go.OpenSpec.ofChange s with cond := some uptoSmall }

/-- 'bellwetherlaw18.FlowOnce', WHERE WHAT IT READS IS OF BULK AT MOST 1048576: true; the input reads as it did. -/
def flowOnceUptoRow : OpenClaim := { program := "ytkfcbpbnoeaheaadoor", sum := "7188cabff986ca14f1fb7f92faca0e659b27cd584d99a0de14bcd4678247f8c9", func := "bellwether/bellwetherlaw18.FlowOnce", spec := "flowOnce", inPlace := ["internal/reflectlite.TypeOf", "internal/reflectlite.ValueOf", "(internal/reflectlite.Value).Type", "(internal/reflectlite.Value).IsNil", "(internal/reflectlite.Value).Elem", "(internal/reflectlite.Value).Set", "slices.overlaps[bellwether/api.Item]"], unfollowed := true, recurses := true, named := ["errors.errorType"], apart := false, laid := [("errors.errorType", laid_errors_errorType)], narrowed := true }
def FlowOnceUptoSaid : Prop := flowOnceUptoRow.holds Tryd.pinned (OpenSpec.upto flowOnceSpec)

/-- 'bellwetherlaw18.FlowGap', WHERE WHAT IT READS IS OF BULK AT MOST 1048576: true; the input reads as it did. -/
def flowGapUptoRow : OpenClaim := { program := "ytkfcbpbnoeaheaadoor", sum := "7188cabff986ca14f1fb7f92faca0e659b27cd584d99a0de14bcd4678247f8c9", func := "bellwether/bellwetherlaw18.FlowGap", spec := "flowGap", inPlace := ["internal/reflectlite.TypeOf", "internal/reflectlite.ValueOf", "(internal/reflectlite.Value).Type", "(internal/reflectlite.Value).IsNil", "(internal/reflectlite.Value).Elem", "(internal/reflectlite.Value).Set", "slices.overlaps[bellwether/api.Item]"], unfollowed := true, recurses := true, named := ["errors.errorType"], apart := false, laid := [("errors.errorType", laid_errors_errorType)], narrowed := true }
def FlowGapUptoSaid : Prop := flowGapUptoRow.holds Tryd.pinned (OpenSpec.upto flowGapSpec)

/-- 'bellwetherlaw18.FlowQuiet', WHERE WHAT IT READS IS OF BULK AT MOST 1048576: true; the input reads as it did. -/
def flowQuietUptoRow : OpenClaim := { program := "ytkfcbpbnoeaheaadoor", sum := "7188cabff986ca14f1fb7f92faca0e659b27cd584d99a0de14bcd4678247f8c9", func := "bellwether/bellwetherlaw18.FlowQuiet", spec := "flowQuiet", inPlace := ["internal/reflectlite.TypeOf", "internal/reflectlite.ValueOf", "(internal/reflectlite.Value).Type", "(internal/reflectlite.Value).IsNil", "(internal/reflectlite.Value).Elem", "(internal/reflectlite.Value).Set", "slices.overlaps[bellwether/api.Item]"], unfollowed := true, recurses := true, named := ["errors.errorType"], apart := false, laid := [("errors.errorType", laid_errors_errorType)], narrowed := true }
def FlowQuietUptoSaid : Prop := flowQuietUptoRow.holds Tryd.pinned (OpenSpec.upto flowQuietSpec)

/-- 'bellwetherlaw18.FlowCatches', WHERE WHAT IT READS IS OF BULK AT MOST 1048576: true; the input reads as it did. -/
def flowCatchesUptoRow : OpenClaim := { program := "ytkfcbpbnoeaheaadoor", sum := "7188cabff986ca14f1fb7f92faca0e659b27cd584d99a0de14bcd4678247f8c9", func := "bellwether/bellwetherlaw18.FlowCatches", spec := "flowCatches", inPlace := ["internal/reflectlite.TypeOf", "internal/reflectlite.ValueOf", "(internal/reflectlite.Value).Type", "(internal/reflectlite.Value).IsNil", "(internal/reflectlite.Value).Elem", "(internal/reflectlite.Value).Set", "slices.overlaps[bellwether/api.Item]"], unfollowed := true, recurses := true, named := ["errors.errorType"], apart := false, laid := [("errors.errorType", laid_errors_errorType)], narrowed := true }
def FlowCatchesUptoSaid : Prop := flowCatchesUptoRow.holds Tryd.pinned (OpenSpec.upto flowCatchesSpec)

end Rows
end Go.Proofs.YtkfcbpbnoeaheaaDoor
