/-
  NARROWER THAN 'FOR EVERY INPUT', by the rows' own cells (each row's printed sentence says how): RootEpoch: laid · RootNumbers: laid · RootTurns: laid · GraftAsks: laid · GraftAck: laid · GraftDeep: laid · GraftAll: laid · GraftExact: laid · GraftRight: laid · GraftLost: laid.
  DERIVED. THE GIVEN ROWS OF THIS SEAT. 10 by the template 'for every input the law returns true; each argument reads behind the call as it read before'; 0 by the template 'total and deterministic' (their statements: YtdflglehippoiaaGreatDoorTotals.lean).
  GIVEN WITH THE SEED: the statements are not yours to turn. If you find one false, say at which input.
  Laid BY PROGRAM, IN A SANDBOX (cutbox-rows.mjs): the forced cells as the released guide's own fill.sh prints them over the translation 6d2d7df100126307… (all of the seat's roots in one cut). By AI agents, Wed Nov 11 2026. No macro, syntax, notation, axiom, sorry.
-/
import Derived.Test.YtdflglehippoiaaGreatDoorChecked
import GoSem.Claim
import GoSem.ClaimJoined
import GoSem.ClaimMapViews
import Derived.JoinedTies
import Derived.KernelRfl
namespace Go.Proofs.YtdflglehippoiaaGreatDoor
/- THE CELL 'sum', in the pinned program and in every row, IS THE sha256 OF THE DUMP (.gsa) THAT YtdflglehippoiaaGreatDoorProg.lean LOADS. Nothing in Lean hashes anything: it is a label: what it is worth is what the hold of that sum in a sandbox is worth. -/
noncomputable def Tryz.pinned : Pinned := { name := "ytdflglehippoiaagreatdoor", sum := "6d2d7df1001263073218cb576a7023166c5a796291c93fb09b1df01e6da4a679", checked := Tryz.checked }
namespace Rows
def none {H : Type} : Left H := { results := [], args := [] }

/- WHAT THE LISTED PACKAGE-LEVEL VARIABLES READ AS WHEN THE CALL BEGINS. Each datum BY PROGRAM (the guide's laid-datum.mjs) off the statement by which the dump's own 'gosem.cut.vars' lays the variable. In a bare row this is a premise. The card (YtdflglehippoiaaGreatDoorCards.lean) ties it to the program's text. -/
def laid_errors_errorType {H : Type} : DataW H := .iface "internal/reflectlite.rtype" (.agg [.ptr (.lit (.string [101, 114, 114, 111, 114]))])

/-- 'bellwetherlaw20.RootEpoch': WHATEVER THE INPUT: true; the input reads as it did. -/
def rootEpochSpec : ChangeSpec := { name := "rootEpoch", fn := fun _ => fun
  | [d1, d2, d3, d4] => { results := [.lit (.bool true)], args := [d1, d2, d3, d4] }
  | _ => none }
def rootEpochRow : OpenClaim := { program := "ytdflglehippoiaagreatdoor", sum := "6d2d7df1001263073218cb576a7023166c5a796291c93fb09b1df01e6da4a679", func := "bellwether/bellwetherlaw20.RootEpoch", spec := "rootEpoch", inPlace := ["internal/reflectlite.TypeOf", "internal/reflectlite.ValueOf", "(internal/reflectlite.Value).Type", "(internal/reflectlite.Value).IsNil", "(internal/reflectlite.Value).Elem", "(internal/reflectlite.Value).Set", "slices.overlaps[bellwether/api.Item]"], unfollowed := true, recurses := true, named := ["errors.errorType"], apart := false, laid := [("errors.errorType", laid_errors_errorType)] }
def RootEpochSaid : Prop := rootEpochRow.holds Tryz.pinned (OpenSpec.ofChange rootEpochSpec)

/-- ITS FALSE NEIGHBOUR: 'it returns false'. Refute it at one input. -/
def rootEpochWrong : ChangeSpec := { name := "rootEpoch", fn := fun _ => fun
  | [d1, d2, d3, d4] => { results := [.lit (.bool false)], args := [d1, d2, d3, d4] }
  | _ => none }
def RootEpochWrongFalsely : Prop := rootEpochRow.holds Tryz.pinned (OpenSpec.ofChange rootEpochWrong)

/-- 'bellwetherlaw20.RootNumbers': WHATEVER THE INPUT: true; the input reads as it did. -/
def rootNumbersSpec : ChangeSpec := { name := "rootNumbers", fn := fun _ => fun
  | [d1, d2, d3, d4, d5] => { results := [.lit (.bool true)], args := [d1, d2, d3, d4, d5] }
  | _ => none }
def rootNumbersRow : OpenClaim := { program := "ytdflglehippoiaagreatdoor", sum := "6d2d7df1001263073218cb576a7023166c5a796291c93fb09b1df01e6da4a679", func := "bellwether/bellwetherlaw20.RootNumbers", spec := "rootNumbers", inPlace := ["internal/reflectlite.TypeOf", "internal/reflectlite.ValueOf", "(internal/reflectlite.Value).Type", "(internal/reflectlite.Value).IsNil", "(internal/reflectlite.Value).Elem", "(internal/reflectlite.Value).Set", "slices.overlaps[bellwether/api.Item]"], unfollowed := true, recurses := true, named := ["errors.errorType"], apart := false, laid := [("errors.errorType", laid_errors_errorType)] }
def RootNumbersSaid : Prop := rootNumbersRow.holds Tryz.pinned (OpenSpec.ofChange rootNumbersSpec)

/-- ITS FALSE NEIGHBOUR: 'it returns false'. Refute it at one input. -/
def rootNumbersWrong : ChangeSpec := { name := "rootNumbers", fn := fun _ => fun
  | [d1, d2, d3, d4, d5] => { results := [.lit (.bool false)], args := [d1, d2, d3, d4, d5] }
  | _ => none }
def RootNumbersWrongFalsely : Prop := rootNumbersRow.holds Tryz.pinned (OpenSpec.ofChange rootNumbersWrong)

/-- 'bellwetherlaw20.RootTurns': WHATEVER THE INPUT: true; the input reads as it did. -/
def rootTurnsSpec : ChangeSpec := { name := "rootTurns", fn := fun _ => fun
  | [d1, d2] => { results := [.lit (.bool true)], args := [d1, d2] }
  | _ => none }
def rootTurnsRow : OpenClaim := { program := "ytdflglehippoiaagreatdoor", sum := "6d2d7df1001263073218cb576a7023166c5a796291c93fb09b1df01e6da4a679", func := "bellwether/bellwetherlaw20.RootTurns", spec := "rootTurns", inPlace := ["internal/reflectlite.TypeOf", "internal/reflectlite.ValueOf", "(internal/reflectlite.Value).Type", "(internal/reflectlite.Value).IsNil", "(internal/reflectlite.Value).Elem", "(internal/reflectlite.Value).Set", "slices.overlaps[bellwether/api.Item]"], unfollowed := true, recurses := true, named := ["errors.errorType"], apart := false, laid := [("errors.errorType", laid_errors_errorType)] }
def RootTurnsSaid : Prop := rootTurnsRow.holds Tryz.pinned (OpenSpec.ofChange rootTurnsSpec)

/-- ITS FALSE NEIGHBOUR: 'it returns false'. Refute it at one input. -/
def rootTurnsWrong : ChangeSpec := { name := "rootTurns", fn := fun _ => fun
  | [d1, d2] => { results := [.lit (.bool false)], args := [d1, d2] }
  | _ => none }
def RootTurnsWrongFalsely : Prop := rootTurnsRow.holds Tryz.pinned (OpenSpec.ofChange rootTurnsWrong)

/-- 'bellwetherlaw19.GraftAsks': WHATEVER THE INPUT: true; the input reads as it did. -/
def graftAsksSpec : ChangeSpec := { name := "graftAsks", fn := fun _ => fun
  | [d1, d2, d3, d4, d5, d6] => { results := [.lit (.bool true)], args := [d1, d2, d3, d4, d5, d6] }
  | _ => none }
def graftAsksRow : OpenClaim := { program := "ytdflglehippoiaagreatdoor", sum := "6d2d7df1001263073218cb576a7023166c5a796291c93fb09b1df01e6da4a679", func := "bellwether/bellwetherlaw19.GraftAsks", spec := "graftAsks", inPlace := ["internal/reflectlite.TypeOf", "internal/reflectlite.ValueOf", "(internal/reflectlite.Value).Type", "(internal/reflectlite.Value).IsNil", "(internal/reflectlite.Value).Elem", "(internal/reflectlite.Value).Set", "slices.overlaps[bellwether/api.Kid]"], unfollowed := true, recurses := true, named := ["errors.errorType"], apart := false, laid := [("errors.errorType", laid_errors_errorType)] }
def GraftAsksSaid : Prop := graftAsksRow.holds Tryz.pinned (OpenSpec.ofChange graftAsksSpec)

/-- ITS FALSE NEIGHBOUR: 'it returns false'. Refute it at one input. -/
def graftAsksWrong : ChangeSpec := { name := "graftAsks", fn := fun _ => fun
  | [d1, d2, d3, d4, d5, d6] => { results := [.lit (.bool false)], args := [d1, d2, d3, d4, d5, d6] }
  | _ => none }
def GraftAsksWrongFalsely : Prop := graftAsksRow.holds Tryz.pinned (OpenSpec.ofChange graftAsksWrong)

/-- 'bellwetherlaw19.GraftAck': WHATEVER THE INPUT: true; the input reads as it did. -/
def graftAckSpec : ChangeSpec := { name := "graftAck", fn := fun _ => fun
  | [d1, d2, d3, d4, d5, d6, d7, d8] => { results := [.lit (.bool true)], args := [d1, d2, d3, d4, d5, d6, d7, d8] }
  | _ => none }
def graftAckRow : OpenClaim := { program := "ytdflglehippoiaagreatdoor", sum := "6d2d7df1001263073218cb576a7023166c5a796291c93fb09b1df01e6da4a679", func := "bellwether/bellwetherlaw19.GraftAck", spec := "graftAck", inPlace := ["internal/reflectlite.TypeOf", "internal/reflectlite.ValueOf", "(internal/reflectlite.Value).Type", "(internal/reflectlite.Value).IsNil", "(internal/reflectlite.Value).Elem", "(internal/reflectlite.Value).Set", "slices.overlaps[bellwether/api.Kid]"], unfollowed := true, recurses := true, named := ["errors.errorType"], apart := false, laid := [("errors.errorType", laid_errors_errorType)] }
def GraftAckSaid : Prop := graftAckRow.holds Tryz.pinned (OpenSpec.ofChange graftAckSpec)

/-- ITS FALSE NEIGHBOUR: 'it returns false'. Refute it at one input. -/
def graftAckWrong : ChangeSpec := { name := "graftAck", fn := fun _ => fun
  | [d1, d2, d3, d4, d5, d6, d7, d8] => { results := [.lit (.bool false)], args := [d1, d2, d3, d4, d5, d6, d7, d8] }
  | _ => none }
def GraftAckWrongFalsely : Prop := graftAckRow.holds Tryz.pinned (OpenSpec.ofChange graftAckWrong)

/-- 'bellwetherlaw19.GraftDeep': WHATEVER THE INPUT: true; the input reads as it did. -/
def graftDeepSpec : ChangeSpec := { name := "graftDeep", fn := fun _ => fun
  | [d1, d2, d3] => { results := [.lit (.bool true)], args := [d1, d2, d3] }
  | _ => none }
def graftDeepRow : OpenClaim := { program := "ytdflglehippoiaagreatdoor", sum := "6d2d7df1001263073218cb576a7023166c5a796291c93fb09b1df01e6da4a679", func := "bellwether/bellwetherlaw19.GraftDeep", spec := "graftDeep", inPlace := ["internal/reflectlite.TypeOf", "internal/reflectlite.ValueOf", "(internal/reflectlite.Value).Type", "(internal/reflectlite.Value).IsNil", "(internal/reflectlite.Value).Elem", "(internal/reflectlite.Value).Set", "slices.overlaps[bellwether/api.Kid]"], unfollowed := true, recurses := true, named := ["errors.errorType"], apart := false, laid := [("errors.errorType", laid_errors_errorType)] }
def GraftDeepSaid : Prop := graftDeepRow.holds Tryz.pinned (OpenSpec.ofChange graftDeepSpec)

/-- ITS FALSE NEIGHBOUR: 'it returns false'. Refute it at one input. -/
def graftDeepWrong : ChangeSpec := { name := "graftDeep", fn := fun _ => fun
  | [d1, d2, d3] => { results := [.lit (.bool false)], args := [d1, d2, d3] }
  | _ => none }
def GraftDeepWrongFalsely : Prop := graftDeepRow.holds Tryz.pinned (OpenSpec.ofChange graftDeepWrong)

/-- 'bellwetherlaw19.GraftAll': WHATEVER THE INPUT: true; the input reads as it did. -/
def graftAllSpec : ChangeSpec := { name := "graftAll", fn := fun _ => fun
  | [d1, d2, d3] => { results := [.lit (.bool true)], args := [d1, d2, d3] }
  | _ => none }
def graftAllRow : OpenClaim := { program := "ytdflglehippoiaagreatdoor", sum := "6d2d7df1001263073218cb576a7023166c5a796291c93fb09b1df01e6da4a679", func := "bellwether/bellwetherlaw19.GraftAll", spec := "graftAll", inPlace := ["internal/reflectlite.TypeOf", "internal/reflectlite.ValueOf", "(internal/reflectlite.Value).Type", "(internal/reflectlite.Value).IsNil", "(internal/reflectlite.Value).Elem", "(internal/reflectlite.Value).Set", "slices.overlaps[bellwether/api.Kid]"], unfollowed := true, recurses := true, named := ["errors.errorType"], apart := false, laid := [("errors.errorType", laid_errors_errorType)] }
def GraftAllSaid : Prop := graftAllRow.holds Tryz.pinned (OpenSpec.ofChange graftAllSpec)

/-- ITS FALSE NEIGHBOUR: 'it returns false'. Refute it at one input. -/
def graftAllWrong : ChangeSpec := { name := "graftAll", fn := fun _ => fun
  | [d1, d2, d3] => { results := [.lit (.bool false)], args := [d1, d2, d3] }
  | _ => none }
def GraftAllWrongFalsely : Prop := graftAllRow.holds Tryz.pinned (OpenSpec.ofChange graftAllWrong)

/-- 'bellwetherlaw19.GraftExact': WHATEVER THE INPUT: true; the input reads as it did. -/
def graftExactSpec : ChangeSpec := { name := "graftExact", fn := fun _ => fun
  | [d1, d2, d3, d4, d5, d6, d7, d8] => { results := [.lit (.bool true)], args := [d1, d2, d3, d4, d5, d6, d7, d8] }
  | _ => none }
def graftExactRow : OpenClaim := { program := "ytdflglehippoiaagreatdoor", sum := "6d2d7df1001263073218cb576a7023166c5a796291c93fb09b1df01e6da4a679", func := "bellwether/bellwetherlaw19.GraftExact", spec := "graftExact", inPlace := ["internal/reflectlite.TypeOf", "internal/reflectlite.ValueOf", "(internal/reflectlite.Value).Type", "(internal/reflectlite.Value).IsNil", "(internal/reflectlite.Value).Elem", "(internal/reflectlite.Value).Set", "slices.overlaps[bellwether/api.Kid]"], unfollowed := true, recurses := true, named := ["errors.errorType"], apart := false, laid := [("errors.errorType", laid_errors_errorType)] }
def GraftExactSaid : Prop := graftExactRow.holds Tryz.pinned (OpenSpec.ofChange graftExactSpec)

/-- ITS FALSE NEIGHBOUR: 'it returns false'. Refute it at one input. -/
def graftExactWrong : ChangeSpec := { name := "graftExact", fn := fun _ => fun
  | [d1, d2, d3, d4, d5, d6, d7, d8] => { results := [.lit (.bool false)], args := [d1, d2, d3, d4, d5, d6, d7, d8] }
  | _ => none }
def GraftExactWrongFalsely : Prop := graftExactRow.holds Tryz.pinned (OpenSpec.ofChange graftExactWrong)

/-- 'bellwetherlaw19.GraftRight': WHATEVER THE INPUT: true; the input reads as it did. -/
def graftRightSpec : ChangeSpec := { name := "graftRight", fn := fun _ => fun
  | [d1, d2, d3, d4, d5, d6, d7, d8] => { results := [.lit (.bool true)], args := [d1, d2, d3, d4, d5, d6, d7, d8] }
  | _ => none }
def graftRightRow : OpenClaim := { program := "ytdflglehippoiaagreatdoor", sum := "6d2d7df1001263073218cb576a7023166c5a796291c93fb09b1df01e6da4a679", func := "bellwether/bellwetherlaw19.GraftRight", spec := "graftRight", inPlace := ["internal/reflectlite.TypeOf", "internal/reflectlite.ValueOf", "(internal/reflectlite.Value).Type", "(internal/reflectlite.Value).IsNil", "(internal/reflectlite.Value).Elem", "(internal/reflectlite.Value).Set", "slices.overlaps[bellwether/api.Kid]"], unfollowed := true, recurses := true, named := ["errors.errorType"], apart := false, laid := [("errors.errorType", laid_errors_errorType)] }
def GraftRightSaid : Prop := graftRightRow.holds Tryz.pinned (OpenSpec.ofChange graftRightSpec)

/-- ITS FALSE NEIGHBOUR: 'it returns false'. Refute it at one input. -/
def graftRightWrong : ChangeSpec := { name := "graftRight", fn := fun _ => fun
  | [d1, d2, d3, d4, d5, d6, d7, d8] => { results := [.lit (.bool false)], args := [d1, d2, d3, d4, d5, d6, d7, d8] }
  | _ => none }
def GraftRightWrongFalsely : Prop := graftRightRow.holds Tryz.pinned (OpenSpec.ofChange graftRightWrong)

/-- 'bellwetherlaw19.GraftLost': WHATEVER THE INPUT: true; the input reads as it did. -/
def graftLostSpec : ChangeSpec := { name := "graftLost", fn := fun _ => fun
  | [d1, d2, d3, d4] => { results := [.lit (.bool true)], args := [d1, d2, d3, d4] }
  | _ => none }
def graftLostRow : OpenClaim := { program := "ytdflglehippoiaagreatdoor", sum := "6d2d7df1001263073218cb576a7023166c5a796291c93fb09b1df01e6da4a679", func := "bellwether/bellwetherlaw19.GraftLost", spec := "graftLost", inPlace := ["internal/reflectlite.TypeOf", "internal/reflectlite.ValueOf", "(internal/reflectlite.Value).Type", "(internal/reflectlite.Value).IsNil", "(internal/reflectlite.Value).Elem", "(internal/reflectlite.Value).Set", "slices.overlaps[bellwether/api.Kid]"], unfollowed := true, recurses := true, named := ["errors.errorType"], apart := false, laid := [("errors.errorType", laid_errors_errorType)] }
def GraftLostSaid : Prop := graftLostRow.holds Tryz.pinned (OpenSpec.ofChange graftLostSpec)

/-- ITS FALSE NEIGHBOUR: 'it returns false'. Refute it at one input. -/
def graftLostWrong : ChangeSpec := { name := "graftLost", fn := fun _ => fun
  | [d1, d2, d3, d4] => { results := [.lit (.bool false)], args := [d1, d2, d3, d4] }
  | _ => none }
def GraftLostWrongFalsely : Prop := graftLostRow.holds Tryz.pinned (OpenSpec.ofChange graftLostWrong)

/- THE SECOND FORM. 'bulk': how many values and letters a reading holds, each counted each time it is reached (what is shared counts as often as it is met; a slice's spare places count too). A statement '..UptoSaid' is the law's where the arguments, and the package variables that the reading takes, are together of bulk at most 1048576: NARROWER than '..Said'. Prove '..Said' where nothing that the law and all that it calls make is longer than what came in: it says more and counts as full. Else prove '..UptoSaid'. A law counts once. -/
mutual
def uptoBulk {H : Type} : DataW H → Nat
  | .lit (.string bytes) => bytes.length + 1
  | .lit _ => 1
  | .nil => 1
  | .ptr d => uptoBulk d + 1
  | .slice elems spare => uptoBulkAll elems + uptoBulkAll spare + 1
  | .agg parts => uptoBulkAll parts + 1
  | .iface _ d => uptoBulk d + 1
  | .map entries => uptoBulkEntries entries + 1
  | .held _ => 1
def uptoBulkAll {H : Type} : List (DataW H) → Nat
  | [] => 0
  | d :: r => uptoBulk d + uptoBulkAll r
def uptoBulkEntries {H : Type} : List (Lit × DataW H) → Nat
  | [] => 0
  | x :: r => uptoBulkEntry x + uptoBulkEntries r
def uptoBulkEntry {H : Type} : Lit × DataW H → Nat
  | (.string bytes, d) => bytes.length + uptoBulk d + 1
  | (_, d) => uptoBulk d + 1
 end
def uptoSmall : (H : Type) → List (DataW H) → Bool := fun _ ds => decide (uptoBulkAll ds ≤ 1048576)
def OpenSpec.upto (s : _root_.Go.ChangeSpec) : _root_.Go.OpenSpec := { _root_.Go.OpenSpec.ofChange s with cond := some uptoSmall }

/-- 'bellwetherlaw20.RootEpoch', WHERE WHAT IT READS IS OF BULK AT MOST 1048576: true; the input reads as it did. -/
def rootEpochUptoRow : OpenClaim := { program := "ytdflglehippoiaagreatdoor", sum := "6d2d7df1001263073218cb576a7023166c5a796291c93fb09b1df01e6da4a679", func := "bellwether/bellwetherlaw20.RootEpoch", spec := "rootEpoch", inPlace := ["internal/reflectlite.TypeOf", "internal/reflectlite.ValueOf", "(internal/reflectlite.Value).Type", "(internal/reflectlite.Value).IsNil", "(internal/reflectlite.Value).Elem", "(internal/reflectlite.Value).Set", "slices.overlaps[bellwether/api.Item]"], unfollowed := true, recurses := true, named := ["errors.errorType"], apart := false, laid := [("errors.errorType", laid_errors_errorType)], narrowed := true }
def RootEpochUptoSaid : Prop := rootEpochUptoRow.holds Tryz.pinned (OpenSpec.upto rootEpochSpec)

/-- 'bellwetherlaw20.RootNumbers', WHERE WHAT IT READS IS OF BULK AT MOST 1048576: true; the input reads as it did. -/
def rootNumbersUptoRow : OpenClaim := { program := "ytdflglehippoiaagreatdoor", sum := "6d2d7df1001263073218cb576a7023166c5a796291c93fb09b1df01e6da4a679", func := "bellwether/bellwetherlaw20.RootNumbers", spec := "rootNumbers", inPlace := ["internal/reflectlite.TypeOf", "internal/reflectlite.ValueOf", "(internal/reflectlite.Value).Type", "(internal/reflectlite.Value).IsNil", "(internal/reflectlite.Value).Elem", "(internal/reflectlite.Value).Set", "slices.overlaps[bellwether/api.Item]"], unfollowed := true, recurses := true, named := ["errors.errorType"], apart := false, laid := [("errors.errorType", laid_errors_errorType)], narrowed := true }
def RootNumbersUptoSaid : Prop := rootNumbersUptoRow.holds Tryz.pinned (OpenSpec.upto rootNumbersSpec)

/-- 'bellwetherlaw20.RootTurns', WHERE WHAT IT READS IS OF BULK AT MOST 1048576: true; the input reads as it did. -/
def rootTurnsUptoRow : OpenClaim := { program := "ytdflglehippoiaagreatdoor", sum := "6d2d7df1001263073218cb576a7023166c5a796291c93fb09b1df01e6da4a679", func := "bellwether/bellwetherlaw20.RootTurns", spec := "rootTurns", inPlace := ["internal/reflectlite.TypeOf", "internal/reflectlite.ValueOf", "(internal/reflectlite.Value).Type", "(internal/reflectlite.Value).IsNil", "(internal/reflectlite.Value).Elem", "(internal/reflectlite.Value).Set", "slices.overlaps[bellwether/api.Item]"], unfollowed := true, recurses := true, named := ["errors.errorType"], apart := false, laid := [("errors.errorType", laid_errors_errorType)], narrowed := true }
def RootTurnsUptoSaid : Prop := rootTurnsUptoRow.holds Tryz.pinned (OpenSpec.upto rootTurnsSpec)

/-- 'bellwetherlaw19.GraftAsks', WHERE WHAT IT READS IS OF BULK AT MOST 1048576: true; the input reads as it did. -/
def graftAsksUptoRow : OpenClaim := { program := "ytdflglehippoiaagreatdoor", sum := "6d2d7df1001263073218cb576a7023166c5a796291c93fb09b1df01e6da4a679", func := "bellwether/bellwetherlaw19.GraftAsks", spec := "graftAsks", inPlace := ["internal/reflectlite.TypeOf", "internal/reflectlite.ValueOf", "(internal/reflectlite.Value).Type", "(internal/reflectlite.Value).IsNil", "(internal/reflectlite.Value).Elem", "(internal/reflectlite.Value).Set", "slices.overlaps[bellwether/api.Kid]"], unfollowed := true, recurses := true, named := ["errors.errorType"], apart := false, laid := [("errors.errorType", laid_errors_errorType)], narrowed := true }
def GraftAsksUptoSaid : Prop := graftAsksUptoRow.holds Tryz.pinned (OpenSpec.upto graftAsksSpec)

/-- 'bellwetherlaw19.GraftAck', WHERE WHAT IT READS IS OF BULK AT MOST 1048576: true; the input reads as it did. -/
def graftAckUptoRow : OpenClaim := { program := "ytdflglehippoiaagreatdoor", sum := "6d2d7df1001263073218cb576a7023166c5a796291c93fb09b1df01e6da4a679", func := "bellwether/bellwetherlaw19.GraftAck", spec := "graftAck", inPlace := ["internal/reflectlite.TypeOf", "internal/reflectlite.ValueOf", "(internal/reflectlite.Value).Type", "(internal/reflectlite.Value).IsNil", "(internal/reflectlite.Value).Elem", "(internal/reflectlite.Value).Set", "slices.overlaps[bellwether/api.Kid]"], unfollowed := true, recurses := true, named := ["errors.errorType"], apart := false, laid := [("errors.errorType", laid_errors_errorType)], narrowed := true }
def GraftAckUptoSaid : Prop := graftAckUptoRow.holds Tryz.pinned (OpenSpec.upto graftAckSpec)

/-- 'bellwetherlaw19.GraftDeep', WHERE WHAT IT READS IS OF BULK AT MOST 1048576: true; the input reads as it did. -/
def graftDeepUptoRow : OpenClaim := { program := "ytdflglehippoiaagreatdoor", sum := "6d2d7df1001263073218cb576a7023166c5a796291c93fb09b1df01e6da4a679", func := "bellwether/bellwetherlaw19.GraftDeep", spec := "graftDeep", inPlace := ["internal/reflectlite.TypeOf", "internal/reflectlite.ValueOf", "(internal/reflectlite.Value).Type", "(internal/reflectlite.Value).IsNil", "(internal/reflectlite.Value).Elem", "(internal/reflectlite.Value).Set", "slices.overlaps[bellwether/api.Kid]"], unfollowed := true, recurses := true, named := ["errors.errorType"], apart := false, laid := [("errors.errorType", laid_errors_errorType)], narrowed := true }
def GraftDeepUptoSaid : Prop := graftDeepUptoRow.holds Tryz.pinned (OpenSpec.upto graftDeepSpec)

/-- 'bellwetherlaw19.GraftAll', WHERE WHAT IT READS IS OF BULK AT MOST 1048576: true; the input reads as it did. -/
def graftAllUptoRow : OpenClaim := { program := "ytdflglehippoiaagreatdoor", sum := "6d2d7df1001263073218cb576a7023166c5a796291c93fb09b1df01e6da4a679", func := "bellwether/bellwetherlaw19.GraftAll", spec := "graftAll", inPlace := ["internal/reflectlite.TypeOf", "internal/reflectlite.ValueOf", "(internal/reflectlite.Value).Type", "(internal/reflectlite.Value).IsNil", "(internal/reflectlite.Value).Elem", "(internal/reflectlite.Value).Set", "slices.overlaps[bellwether/api.Kid]"], unfollowed := true, recurses := true, named := ["errors.errorType"], apart := false, laid := [("errors.errorType", laid_errors_errorType)], narrowed := true }
def GraftAllUptoSaid : Prop := graftAllUptoRow.holds Tryz.pinned (OpenSpec.upto graftAllSpec)

/-- 'bellwetherlaw19.GraftExact', WHERE WHAT IT READS IS OF BULK AT MOST 1048576: true; the input reads as it did. -/
def graftExactUptoRow : OpenClaim := { program := "ytdflglehippoiaagreatdoor", sum := "6d2d7df1001263073218cb576a7023166c5a796291c93fb09b1df01e6da4a679", func := "bellwether/bellwetherlaw19.GraftExact", spec := "graftExact", inPlace := ["internal/reflectlite.TypeOf", "internal/reflectlite.ValueOf", "(internal/reflectlite.Value).Type", "(internal/reflectlite.Value).IsNil", "(internal/reflectlite.Value).Elem", "(internal/reflectlite.Value).Set", "slices.overlaps[bellwether/api.Kid]"], unfollowed := true, recurses := true, named := ["errors.errorType"], apart := false, laid := [("errors.errorType", laid_errors_errorType)], narrowed := true }
def GraftExactUptoSaid : Prop := graftExactUptoRow.holds Tryz.pinned (OpenSpec.upto graftExactSpec)

/-- 'bellwetherlaw19.GraftRight', WHERE WHAT IT READS IS OF BULK AT MOST 1048576: true; the input reads as it did. -/
def graftRightUptoRow : OpenClaim := { program := "ytdflglehippoiaagreatdoor", sum := "6d2d7df1001263073218cb576a7023166c5a796291c93fb09b1df01e6da4a679", func := "bellwether/bellwetherlaw19.GraftRight", spec := "graftRight", inPlace := ["internal/reflectlite.TypeOf", "internal/reflectlite.ValueOf", "(internal/reflectlite.Value).Type", "(internal/reflectlite.Value).IsNil", "(internal/reflectlite.Value).Elem", "(internal/reflectlite.Value).Set", "slices.overlaps[bellwether/api.Kid]"], unfollowed := true, recurses := true, named := ["errors.errorType"], apart := false, laid := [("errors.errorType", laid_errors_errorType)], narrowed := true }
def GraftRightUptoSaid : Prop := graftRightUptoRow.holds Tryz.pinned (OpenSpec.upto graftRightSpec)

/-- 'bellwetherlaw19.GraftLost', WHERE WHAT IT READS IS OF BULK AT MOST 1048576: true; the input reads as it did. -/
def graftLostUptoRow : OpenClaim := { program := "ytdflglehippoiaagreatdoor", sum := "6d2d7df1001263073218cb576a7023166c5a796291c93fb09b1df01e6da4a679", func := "bellwether/bellwetherlaw19.GraftLost", spec := "graftLost", inPlace := ["internal/reflectlite.TypeOf", "internal/reflectlite.ValueOf", "(internal/reflectlite.Value).Type", "(internal/reflectlite.Value).IsNil", "(internal/reflectlite.Value).Elem", "(internal/reflectlite.Value).Set", "slices.overlaps[bellwether/api.Kid]"], unfollowed := true, recurses := true, named := ["errors.errorType"], apart := false, laid := [("errors.errorType", laid_errors_errorType)], narrowed := true }
def GraftLostUptoSaid : Prop := graftLostUptoRow.holds Tryz.pinned (OpenSpec.upto graftLostSpec)

end Rows
end Go.Proofs.YtdflglehippoiaaGreatDoor
