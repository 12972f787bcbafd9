/-
  No cell of these rows narrows 'for every input' (looked for: loops, veiled, ifaces, maps, wideKeys, modest, calm, conditions, laid).
  DERIVED. THE GIVEN ROWS OF THIS SEAT. 8 by the template 'for every input the law returns true; each argument reads behind the call as it read before'; 0 by the template 'total and deterministic' (their statements: YtfljapcnkhjmgaaTotals.lean).
  GIVEN WITH THE SEED: the statements are not yours to turn. If you find one false, say at which input.
  Laid BY PROGRAM, IN A SANDBOX (cutbox-rows.mjs): the forced cells as the released guide's own fill.sh prints them over the translation 49ca513ee9395f39… (all of the seat's roots in one cut). By AI agents, Wed Nov 11 2026. No macro, syntax, notation, axiom, sorry.
-/
import Derived.Test.YtfljapcnkhjmgaaChecked
import GoSem.Claim
import GoSem.ClaimJoined
import GoSem.ClaimMapViews
import Derived.JoinedTies
import Derived.KernelRfl
namespace Go.Proofs.Ytfljapcnkhjmgaa
/- THE CELL 'sum', in the pinned program and in every row, IS THE sha256 OF THE DUMP (.gsa) THAT YtfljapcnkhjmgaaProg.lean LOADS. Nothing in Lean hashes anything: it is a label: what it is worth is what the hold of that sum in a sandbox is worth. -/
noncomputable def Try.pinned : Pinned := { name := "ytfljapcnkhjmgaa", sum := "49ca513ee9395f39f4f144d470482aa2412b0d158e31c5874547a7d8f48adc62", checked := Try.checked }
namespace Rows
def none {H : Type} : Left H := { results := [], args := [] }

/-- 'bellwetherlaw10.ViewExact': WHATEVER THE INPUT: true; the input reads as it did. -/
def viewExactSpec : ChangeSpec := { name := "viewExact", fn := fun _ => fun
  | [d1, d2, d3, d4] => { results := [.lit (.bool true)], args := [d1, d2, d3, d4] }
  | _ => none }
def viewExactRow : OpenClaim := { program := "ytfljapcnkhjmgaa", sum := "49ca513ee9395f39f4f144d470482aa2412b0d158e31c5874547a7d8f48adc62", func := "bellwether/bellwetherlaw10.ViewExact", spec := "viewExact", unfollowed := true, recurses := true, apart := false }
def ViewExactSaid : Prop := viewExactRow.holds Try.pinned (OpenSpec.ofChange viewExactSpec)

/-- ITS FALSE NEIGHBOUR: 'it returns false'. Refute it at one input. -/
def viewExactWrong : ChangeSpec := { name := "viewExact", fn := fun _ => fun
  | [d1, d2, d3, d4] => { results := [.lit (.bool false)], args := [d1, d2, d3, d4] }
  | _ => none }
def ViewExactWrongFalsely : Prop := viewExactRow.holds Try.pinned (OpenSpec.ofChange viewExactWrong)

/-- 'bellwetherlaw10.ViewHeard': WHATEVER THE INPUT: true; the input reads as it did. -/
def viewHeardSpec : ChangeSpec := { name := "viewHeard", fn := fun _ => fun
  | [d1, d2, d3, d4, d5] => { results := [.lit (.bool true)], args := [d1, d2, d3, d4, d5] }
  | _ => none }
def viewHeardRow : OpenClaim := { program := "ytfljapcnkhjmgaa", sum := "49ca513ee9395f39f4f144d470482aa2412b0d158e31c5874547a7d8f48adc62", func := "bellwether/bellwetherlaw10.ViewHeard", spec := "viewHeard", unfollowed := true, recurses := true, apart := false }
def ViewHeardSaid : Prop := viewHeardRow.holds Try.pinned (OpenSpec.ofChange viewHeardSpec)

/-- ITS FALSE NEIGHBOUR: 'it returns false'. Refute it at one input. -/
def viewHeardWrong : ChangeSpec := { name := "viewHeard", fn := fun _ => fun
  | [d1, d2, d3, d4, d5] => { results := [.lit (.bool false)], args := [d1, d2, d3, d4, d5] }
  | _ => none }
def ViewHeardWrongFalsely : Prop := viewHeardRow.holds Try.pinned (OpenSpec.ofChange viewHeardWrong)

/-- 'bellwetherlaw10.ViewLive': WHATEVER THE INPUT: true; the input reads as it did. -/
def viewLiveSpec : ChangeSpec := { name := "viewLive", fn := fun _ => fun
  | [d1, d2] => { results := [.lit (.bool true)], args := [d1, d2] }
  | _ => none }
def viewLiveRow : OpenClaim := { program := "ytfljapcnkhjmgaa", sum := "49ca513ee9395f39f4f144d470482aa2412b0d158e31c5874547a7d8f48adc62", func := "bellwether/bellwetherlaw10.ViewLive", spec := "viewLive", unfollowed := true, recurses := true, apart := false }
def ViewLiveSaid : Prop := viewLiveRow.holds Try.pinned (OpenSpec.ofChange viewLiveSpec)

/-- ITS FALSE NEIGHBOUR: 'it returns false'. Refute it at one input. -/
def viewLiveWrong : ChangeSpec := { name := "viewLive", fn := fun _ => fun
  | [d1, d2] => { results := [.lit (.bool false)], args := [d1, d2] }
  | _ => none }
def ViewLiveWrongFalsely : Prop := viewLiveRow.holds Try.pinned (OpenSpec.ofChange viewLiveWrong)

/-- 'bellwetherlaw10.ViewOrder': WHATEVER THE INPUT: true; the input reads as it did. -/
def viewOrderSpec : ChangeSpec := { name := "viewOrder", fn := fun _ => fun
  | [d1, d2, d3, d4, d5] => { results := [.lit (.bool true)], args := [d1, d2, d3, d4, d5] }
  | _ => none }
def viewOrderRow : OpenClaim := { program := "ytfljapcnkhjmgaa", sum := "49ca513ee9395f39f4f144d470482aa2412b0d158e31c5874547a7d8f48adc62", func := "bellwether/bellwetherlaw10.ViewOrder", spec := "viewOrder", unfollowed := true, recurses := true, apart := false }
def ViewOrderSaid : Prop := viewOrderRow.holds Try.pinned (OpenSpec.ofChange viewOrderSpec)

/-- ITS FALSE NEIGHBOUR: 'it returns false'. Refute it at one input. -/
def viewOrderWrong : ChangeSpec := { name := "viewOrder", fn := fun _ => fun
  | [d1, d2, d3, d4, d5] => { results := [.lit (.bool false)], args := [d1, d2, d3, d4, d5] }
  | _ => none }
def ViewOrderWrongFalsely : Prop := viewOrderRow.holds Try.pinned (OpenSpec.ofChange viewOrderWrong)

/-- 'bellwetherlaw08.BagExact': WHATEVER THE INPUT: true; the input reads as it did. -/
def bagExactSpec : ChangeSpec := { name := "bagExact", fn := fun _ => fun
  | [d1, d2, d3, d4, d5] => { results := [.lit (.bool true)], args := [d1, d2, d3, d4, d5] }
  | _ => none }
def bagExactRow : OpenClaim := { program := "ytfljapcnkhjmgaa", sum := "49ca513ee9395f39f4f144d470482aa2412b0d158e31c5874547a7d8f48adc62", func := "bellwether/bellwetherlaw08.BagExact", spec := "bagExact", unfollowed := true, recurses := true, apart := false }
def BagExactSaid : Prop := bagExactRow.holds Try.pinned (OpenSpec.ofChange bagExactSpec)

/-- ITS FALSE NEIGHBOUR: 'it returns false'. Refute it at one input. -/
def bagExactWrong : ChangeSpec := { name := "bagExact", fn := fun _ => fun
  | [d1, d2, d3, d4, d5] => { results := [.lit (.bool false)], args := [d1, d2, d3, d4, d5] }
  | _ => none }
def BagExactWrongFalsely : Prop := bagExactRow.holds Try.pinned (OpenSpec.ofChange bagExactWrong)

/-- 'bellwetherlaw08.BagBack': WHATEVER THE INPUT: true; the input reads as it did. -/
def bagBackSpec : ChangeSpec := { name := "bagBack", fn := fun _ => fun
  | [d1, d2, d3, d4, d5] => { results := [.lit (.bool true)], args := [d1, d2, d3, d4, d5] }
  | _ => none }
def bagBackRow : OpenClaim := { program := "ytfljapcnkhjmgaa", sum := "49ca513ee9395f39f4f144d470482aa2412b0d158e31c5874547a7d8f48adc62", func := "bellwether/bellwetherlaw08.BagBack", spec := "bagBack", unfollowed := true, recurses := true, apart := false }
def BagBackSaid : Prop := bagBackRow.holds Try.pinned (OpenSpec.ofChange bagBackSpec)

/-- ITS FALSE NEIGHBOUR: 'it returns false'. Refute it at one input. -/
def bagBackWrong : ChangeSpec := { name := "bagBack", fn := fun _ => fun
  | [d1, d2, d3, d4, d5] => { results := [.lit (.bool false)], args := [d1, d2, d3, d4, d5] }
  | _ => none }
def BagBackWrongFalsely : Prop := bagBackRow.holds Try.pinned (OpenSpec.ofChange bagBackWrong)

/-- 'bellwetherlaw08.BagFull': WHATEVER THE INPUT: true; the input reads as it did. -/
def bagFullSpec : ChangeSpec := { name := "bagFull", fn := fun _ => fun
  | [d1, d2] => { results := [.lit (.bool true)], args := [d1, d2] }
  | _ => none }
def bagFullRow : OpenClaim := { program := "ytfljapcnkhjmgaa", sum := "49ca513ee9395f39f4f144d470482aa2412b0d158e31c5874547a7d8f48adc62", func := "bellwether/bellwetherlaw08.BagFull", spec := "bagFull", unfollowed := true, recurses := true, apart := false }
def BagFullSaid : Prop := bagFullRow.holds Try.pinned (OpenSpec.ofChange bagFullSpec)

/-- ITS FALSE NEIGHBOUR: 'it returns false'. Refute it at one input. -/
def bagFullWrong : ChangeSpec := { name := "bagFull", fn := fun _ => fun
  | [d1, d2] => { results := [.lit (.bool false)], args := [d1, d2] }
  | _ => none }
def BagFullWrongFalsely : Prop := bagFullRow.holds Try.pinned (OpenSpec.ofChange bagFullWrong)

/-- 'bellwetherlaw08.BagTakes': WHATEVER THE INPUT: true; the input reads as it did. -/
def bagTakesSpec : ChangeSpec := { name := "bagTakes", fn := fun _ => fun
  | [d1, d2] => { results := [.lit (.bool true)], args := [d1, d2] }
  | _ => none }
def bagTakesRow : OpenClaim := { program := "ytfljapcnkhjmgaa", sum := "49ca513ee9395f39f4f144d470482aa2412b0d158e31c5874547a7d8f48adc62", func := "bellwether/bellwetherlaw08.BagTakes", spec := "bagTakes", unfollowed := true, recurses := true, apart := false }
def BagTakesSaid : Prop := bagTakesRow.holds Try.pinned (OpenSpec.ofChange bagTakesSpec)

/-- ITS FALSE NEIGHBOUR: 'it returns false'. Refute it at one input. -/
def bagTakesWrong : ChangeSpec := { name := "bagTakes", fn := fun _ => fun
  | [d1, d2] => { results := [.lit (.bool false)], args := [d1, d2] }
  | _ => none }
def BagTakesWrongFalsely : Prop := bagTakesRow.holds Try.pinned (OpenSpec.ofChange bagTakesWrong)

/- THE SECOND FORM. 'bulk': how many values and letters a reading holds, each counted each time it is reached (what is shared counts as often as it is met; a slice's spare places count too). A statement '..UptoSaid' is the law's where the arguments, and the package variables that the reading takes, are together of bulk at most 1048576: NARROWER than '..Said'. Prove '..Said' where nothing that the law and all that it calls make is longer than what came in: it says more and counts as full. Else prove '..UptoSaid'. A law counts once. -/
mutual
def uptoBulk {H : Type} : DataW H → Nat
  | .lit (.string bytes) => bytes.length + 1
  | .lit _ => 1
  | .nil => 1
  | .ptr d => uptoBulk d + 1
  | .slice elems spare => uptoBulkAll elems + uptoBulkAll spare + 1
  | .agg parts => uptoBulkAll parts + 1
  | .iface _ d => uptoBulk d + 1
  | .map entries => uptoBulkEntries entries + 1
  | .held _ => 1
def uptoBulkAll {H : Type} : List (DataW H) → Nat
  | [] => 0
  | d :: r => uptoBulk d + uptoBulkAll r
def uptoBulkEntries {H : Type} : List (Lit × DataW H) → Nat
  | [] => 0
  | x :: r => uptoBulkEntry x + uptoBulkEntries r
def uptoBulkEntry {H : Type} : Lit × DataW H → Nat
  | (.string bytes, d) => bytes.length + uptoBulk d + 1
  | (_, d) => uptoBulk d + 1
 end
def uptoSmall : (H : Type) → List (DataW H) → Bool := fun _ ds => decide (uptoBulkAll ds ≤ 1048576)
def OpenSpec.upto (s : _root_.Go.ChangeSpec) : _root_.Go.OpenSpec := { _root_.Go.OpenSpec.ofChange s with cond := some uptoSmall }

/-- 'bellwetherlaw10.ViewExact', WHERE WHAT IT READS IS OF BULK AT MOST 1048576: true; the input reads as it did. -/
def viewExactUptoRow : OpenClaim := { program := "ytfljapcnkhjmgaa", sum := "49ca513ee9395f39f4f144d470482aa2412b0d158e31c5874547a7d8f48adc62", func := "bellwether/bellwetherlaw10.ViewExact", spec := "viewExact", unfollowed := true, recurses := true, apart := false, narrowed := true }
def ViewExactUptoSaid : Prop := viewExactUptoRow.holds Try.pinned (OpenSpec.upto viewExactSpec)

/-- 'bellwetherlaw10.ViewHeard', WHERE WHAT IT READS IS OF BULK AT MOST 1048576: true; the input reads as it did. -/
def viewHeardUptoRow : OpenClaim := { program := "ytfljapcnkhjmgaa", sum := "49ca513ee9395f39f4f144d470482aa2412b0d158e31c5874547a7d8f48adc62", func := "bellwether/bellwetherlaw10.ViewHeard", spec := "viewHeard", unfollowed := true, recurses := true, apart := false, narrowed := true }
def ViewHeardUptoSaid : Prop := viewHeardUptoRow.holds Try.pinned (OpenSpec.upto viewHeardSpec)

/-- 'bellwetherlaw10.ViewLive', WHERE WHAT IT READS IS OF BULK AT MOST 1048576: true; the input reads as it did. -/
def viewLiveUptoRow : OpenClaim := { program := "ytfljapcnkhjmgaa", sum := "49ca513ee9395f39f4f144d470482aa2412b0d158e31c5874547a7d8f48adc62", func := "bellwether/bellwetherlaw10.ViewLive", spec := "viewLive", unfollowed := true, recurses := true, apart := false, narrowed := true }
def ViewLiveUptoSaid : Prop := viewLiveUptoRow.holds Try.pinned (OpenSpec.upto viewLiveSpec)

/-- 'bellwetherlaw10.ViewOrder', WHERE WHAT IT READS IS OF BULK AT MOST 1048576: true; the input reads as it did. -/
def viewOrderUptoRow : OpenClaim := { program := "ytfljapcnkhjmgaa", sum := "49ca513ee9395f39f4f144d470482aa2412b0d158e31c5874547a7d8f48adc62", func := "bellwether/bellwetherlaw10.ViewOrder", spec := "viewOrder", unfollowed := true, recurses := true, apart := false, narrowed := true }
def ViewOrderUptoSaid : Prop := viewOrderUptoRow.holds Try.pinned (OpenSpec.upto viewOrderSpec)

/-- 'bellwetherlaw08.BagExact', WHERE WHAT IT READS IS OF BULK AT MOST 1048576: true; the input reads as it did. -/
def bagExactUptoRow : OpenClaim := { program := "ytfljapcnkhjmgaa", sum := "49ca513ee9395f39f4f144d470482aa2412b0d158e31c5874547a7d8f48adc62", func := "bellwether/bellwetherlaw08.BagExact", spec := "bagExact", unfollowed := true, recurses := true, apart := false, narrowed := true }
def BagExactUptoSaid : Prop := bagExactUptoRow.holds Try.pinned (OpenSpec.upto bagExactSpec)

/-- 'bellwetherlaw08.BagBack', WHERE WHAT IT READS IS OF BULK AT MOST 1048576: true; the input reads as it did. -/
def bagBackUptoRow : OpenClaim := { program := "ytfljapcnkhjmgaa", sum := "49ca513ee9395f39f4f144d470482aa2412b0d158e31c5874547a7d8f48adc62", func := "bellwether/bellwetherlaw08.BagBack", spec := "bagBack", unfollowed := true, recurses := true, apart := false, narrowed := true }
def BagBackUptoSaid : Prop := bagBackUptoRow.holds Try.pinned (OpenSpec.upto bagBackSpec)

/-- 'bellwetherlaw08.BagFull', WHERE WHAT IT READS IS OF BULK AT MOST 1048576: true; the input reads as it did. -/
def bagFullUptoRow : OpenClaim := { program := "ytfljapcnkhjmgaa", sum := "49ca513ee9395f39f4f144d470482aa2412b0d158e31c5874547a7d8f48adc62", func := "bellwether/bellwetherlaw08.BagFull", spec := "bagFull", unfollowed := true, recurses := true, apart := false, narrowed := true }
def BagFullUptoSaid : Prop := bagFullUptoRow.holds Try.pinned (OpenSpec.upto bagFullSpec)

/-- 'bellwetherlaw08.BagTakes', WHERE WHAT IT READS IS OF BULK AT MOST 1048576: true; the input reads as it did. -/
def bagTakesUptoRow : OpenClaim := { program := "ytfljapcnkhjmgaa", sum := "49ca513ee9395f39f4f144d470482aa2412b0d158e31c5874547a7d8f48adc62", func := "bellwether/bellwetherlaw08.BagTakes", spec := "bagTakes", unfollowed := true, recurses := true, apart := false, narrowed := true }
def BagTakesUptoSaid : Prop := bagTakesUptoRow.holds Try.pinned (OpenSpec.upto bagTakesSpec)

end Rows
end Go.Proofs.Ytfljapcnkhjmgaa
