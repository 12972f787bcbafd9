/-
  No cell of these rows narrows 'for every input' (looked for: loops, veiled, ifaces, maps, wideKeys, modest, calm, conditions, laid).
  DERIVED. THE GIVEN ROWS OF THIS SEAT. 10 by the template 'for every input the law returns true; each argument reads behind the call as it read before'; 0 by the template 'total and deterministic' (their statements: YtjafaefiigingaaTotals.lean).
  GIVEN WITH THE SEED: the statements are not yours to turn. If you find one false, say at which input.
  Laid BY PROGRAM, IN A SANDBOX (cutbox-rows.mjs): the forced cells as the released guide's own fill.sh prints them over the translation 7e8c38b26d6df746… (all of the seat's roots in one cut). By AI agents, Wed Nov 11 2026. No macro, syntax, notation, axiom, sorry.
-/
import Derived.Test.YtjafaefiigingaaChecked
import GoSem.Claim
import GoSem.ClaimJoined
import GoSem.ClaimMapViews
import Derived.JoinedTies
import Derived.KernelRfl
namespace Go.Proofs.Ytjafaefiigingaa
/- THE CELL 'sum', in the pinned program and in every row, IS THE sha256 OF THE DUMP (.gsa) THAT YtjafaefiigingaaProg.lean LOADS. Nothing in Lean hashes anything: it is a label: what it is worth is what the hold of that sum in a sandbox is worth. -/
noncomputable def Try.pinned : Pinned := { name := "ytjafaefiigingaa", sum := "7e8c38b26d6df74607d359f1742ace7f32f66c01475f2cf2eba6fbac0fc2061c", checked := Try.checked }
namespace Rows
def none {H : Type} : Left H := { results := [], args := [] }

/-- 'bellwetherlaw17.QueueExact': WHATEVER THE INPUT: true; the input reads as it did. -/
def queueExactSpec : ChangeSpec := { name := "queueExact", fn := fun _ => fun
  | [d1, d2, d3] => { results := [.lit (.bool true)], args := [d1, d2, d3] }
  | _ => none }
def queueExactRow : OpenClaim := { program := "ytjafaefiigingaa", sum := "7e8c38b26d6df74607d359f1742ace7f32f66c01475f2cf2eba6fbac0fc2061c", func := "bellwether/bellwetherlaw17.QueueExact", spec := "queueExact", unfollowed := true, recurses := true, apart := false }
def QueueExactSaid : Prop := queueExactRow.holds Try.pinned (OpenSpec.ofChange queueExactSpec)

/-- ITS FALSE NEIGHBOUR: 'it returns false'. Refute it at one input. -/
def queueExactWrong : ChangeSpec := { name := "queueExact", fn := fun _ => fun
  | [d1, d2, d3] => { results := [.lit (.bool false)], args := [d1, d2, d3] }
  | _ => none }
def QueueExactWrongFalsely : Prop := queueExactRow.holds Try.pinned (OpenSpec.ofChange queueExactWrong)

/-- 'bellwetherlaw17.QueueStream': WHATEVER THE INPUT: true; the input reads as it did. -/
def queueStreamSpec : ChangeSpec := { name := "queueStream", fn := fun _ => fun
  | [d1, d2, d3] => { results := [.lit (.bool true)], args := [d1, d2, d3] }
  | _ => none }
def queueStreamRow : OpenClaim := { program := "ytjafaefiigingaa", sum := "7e8c38b26d6df74607d359f1742ace7f32f66c01475f2cf2eba6fbac0fc2061c", func := "bellwether/bellwetherlaw17.QueueStream", spec := "queueStream", unfollowed := true, recurses := true, apart := false }
def QueueStreamSaid : Prop := queueStreamRow.holds Try.pinned (OpenSpec.ofChange queueStreamSpec)

/-- ITS FALSE NEIGHBOUR: 'it returns false'. Refute it at one input. -/
def queueStreamWrong : ChangeSpec := { name := "queueStream", fn := fun _ => fun
  | [d1, d2, d3] => { results := [.lit (.bool false)], args := [d1, d2, d3] }
  | _ => none }
def QueueStreamWrongFalsely : Prop := queueStreamRow.holds Try.pinned (OpenSpec.ofChange queueStreamWrong)

/-- 'bellwetherlaw17.QueueEpochs': WHATEVER THE INPUT: true; the input reads as it did. -/
def queueEpochsSpec : ChangeSpec := { name := "queueEpochs", fn := fun _ => fun
  | [d1, d2, d3] => { results := [.lit (.bool true)], args := [d1, d2, d3] }
  | _ => none }
def queueEpochsRow : OpenClaim := { program := "ytjafaefiigingaa", sum := "7e8c38b26d6df74607d359f1742ace7f32f66c01475f2cf2eba6fbac0fc2061c", func := "bellwether/bellwetherlaw17.QueueEpochs", spec := "queueEpochs", unfollowed := true, recurses := true, apart := false }
def QueueEpochsSaid : Prop := queueEpochsRow.holds Try.pinned (OpenSpec.ofChange queueEpochsSpec)

/-- ITS FALSE NEIGHBOUR: 'it returns false'. Refute it at one input. -/
def queueEpochsWrong : ChangeSpec := { name := "queueEpochs", fn := fun _ => fun
  | [d1, d2, d3] => { results := [.lit (.bool false)], args := [d1, d2, d3] }
  | _ => none }
def QueueEpochsWrongFalsely : Prop := queueEpochsRow.holds Try.pinned (OpenSpec.ofChange queueEpochsWrong)

/-- 'bellwetherlaw17.QueueKinds': WHATEVER THE INPUT: true; the input reads as it did. -/
def queueKindsSpec : ChangeSpec := { name := "queueKinds", fn := fun _ => fun
  | [d1, d2, d3] => { results := [.lit (.bool true)], args := [d1, d2, d3] }
  | _ => none }
def queueKindsRow : OpenClaim := { program := "ytjafaefiigingaa", sum := "7e8c38b26d6df74607d359f1742ace7f32f66c01475f2cf2eba6fbac0fc2061c", func := "bellwether/bellwetherlaw17.QueueKinds", spec := "queueKinds", unfollowed := true, recurses := true, apart := false }
def QueueKindsSaid : Prop := queueKindsRow.holds Try.pinned (OpenSpec.ofChange queueKindsSpec)

/-- ITS FALSE NEIGHBOUR: 'it returns false'. Refute it at one input. -/
def queueKindsWrong : ChangeSpec := { name := "queueKinds", fn := fun _ => fun
  | [d1, d2, d3] => { results := [.lit (.bool false)], args := [d1, d2, d3] }
  | _ => none }
def QueueKindsWrongFalsely : Prop := queueKindsRow.holds Try.pinned (OpenSpec.ofChange queueKindsWrong)

/-- 'bellwetherlaw06.MsgExact': WHATEVER THE INPUT: true; the input reads as it did. -/
def msgExactSpec : ChangeSpec := { name := "msgExact", fn := fun _ => fun
  | [d1, d2, d3] => { results := [.lit (.bool true)], args := [d1, d2, d3] }
  | _ => none }
def msgExactRow : OpenClaim := { program := "ytjafaefiigingaa", sum := "7e8c38b26d6df74607d359f1742ace7f32f66c01475f2cf2eba6fbac0fc2061c", func := "bellwether/bellwetherlaw06.MsgExact", spec := "msgExact", unfollowed := true, recurses := true, apart := false }
def MsgExactSaid : Prop := msgExactRow.holds Try.pinned (OpenSpec.ofChange msgExactSpec)

/-- ITS FALSE NEIGHBOUR: 'it returns false'. Refute it at one input. -/
def msgExactWrong : ChangeSpec := { name := "msgExact", fn := fun _ => fun
  | [d1, d2, d3] => { results := [.lit (.bool false)], args := [d1, d2, d3] }
  | _ => none }
def MsgExactWrongFalsely : Prop := msgExactRow.holds Try.pinned (OpenSpec.ofChange msgExactWrong)

/-- 'bellwetherlaw06.MsgGood': WHATEVER THE INPUT: true; the input reads as it did. -/
def msgGoodSpec : ChangeSpec := { name := "msgGood", fn := fun _ => fun
  | [d1, d2, d3, d4] => { results := [.lit (.bool true)], args := [d1, d2, d3, d4] }
  | _ => none }
def msgGoodRow : OpenClaim := { program := "ytjafaefiigingaa", sum := "7e8c38b26d6df74607d359f1742ace7f32f66c01475f2cf2eba6fbac0fc2061c", func := "bellwether/bellwetherlaw06.MsgGood", spec := "msgGood", unfollowed := true, recurses := true, apart := false }
def MsgGoodSaid : Prop := msgGoodRow.holds Try.pinned (OpenSpec.ofChange msgGoodSpec)

/-- ITS FALSE NEIGHBOUR: 'it returns false'. Refute it at one input. -/
def msgGoodWrong : ChangeSpec := { name := "msgGood", fn := fun _ => fun
  | [d1, d2, d3, d4] => { results := [.lit (.bool false)], args := [d1, d2, d3, d4] }
  | _ => none }
def MsgGoodWrongFalsely : Prop := msgGoodRow.holds Try.pinned (OpenSpec.ofChange msgGoodWrong)

/-- 'bellwetherlaw06.MsgOwn': WHATEVER THE INPUT: true; the input reads as it did. -/
def msgOwnSpec : ChangeSpec := { name := "msgOwn", fn := fun _ => fun
  | [d1, d2, d3, d4] => { results := [.lit (.bool true)], args := [d1, d2, d3, d4] }
  | _ => none }
def msgOwnRow : OpenClaim := { program := "ytjafaefiigingaa", sum := "7e8c38b26d6df74607d359f1742ace7f32f66c01475f2cf2eba6fbac0fc2061c", func := "bellwether/bellwetherlaw06.MsgOwn", spec := "msgOwn", unfollowed := true, recurses := true, apart := false }
def MsgOwnSaid : Prop := msgOwnRow.holds Try.pinned (OpenSpec.ofChange msgOwnSpec)

/-- ITS FALSE NEIGHBOUR: 'it returns false'. Refute it at one input. -/
def msgOwnWrong : ChangeSpec := { name := "msgOwn", fn := fun _ => fun
  | [d1, d2, d3, d4] => { results := [.lit (.bool false)], args := [d1, d2, d3, d4] }
  | _ => none }
def MsgOwnWrongFalsely : Prop := msgOwnRow.holds Try.pinned (OpenSpec.ofChange msgOwnWrong)

/-- 'bellwetherlaw16.AheadExact': WHATEVER THE INPUT: true; the input reads as it did. -/
def aheadExactSpec : ChangeSpec := { name := "aheadExact", fn := fun _ => fun
  | [d1, d2, d3, d4] => { results := [.lit (.bool true)], args := [d1, d2, d3, d4] }
  | _ => none }
def aheadExactRow : OpenClaim := { program := "ytjafaefiigingaa", sum := "7e8c38b26d6df74607d359f1742ace7f32f66c01475f2cf2eba6fbac0fc2061c", func := "bellwether/bellwetherlaw16.AheadExact", spec := "aheadExact", inPlace := ["slices.overlaps[bellwether/api.Item]"], unfollowed := true, recurses := true, apart := false }
def AheadExactSaid : Prop := aheadExactRow.holds Try.pinned (OpenSpec.ofChange aheadExactSpec)

/-- ITS FALSE NEIGHBOUR: 'it returns false'. Refute it at one input. -/
def aheadExactWrong : ChangeSpec := { name := "aheadExact", fn := fun _ => fun
  | [d1, d2, d3, d4] => { results := [.lit (.bool false)], args := [d1, d2, d3, d4] }
  | _ => none }
def AheadExactWrongFalsely : Prop := aheadExactRow.holds Try.pinned (OpenSpec.ofChange aheadExactWrong)

/-- 'bellwetherlaw16.AheadTakes': WHATEVER THE INPUT: true; the input reads as it did. -/
def aheadTakesSpec : ChangeSpec := { name := "aheadTakes", fn := fun _ => fun
  | [d1, d2, d3] => { results := [.lit (.bool true)], args := [d1, d2, d3] }
  | _ => none }
def aheadTakesRow : OpenClaim := { program := "ytjafaefiigingaa", sum := "7e8c38b26d6df74607d359f1742ace7f32f66c01475f2cf2eba6fbac0fc2061c", func := "bellwether/bellwetherlaw16.AheadTakes", spec := "aheadTakes", inPlace := ["slices.overlaps[bellwether/api.Item]"], unfollowed := true, recurses := true, apart := false }
def AheadTakesSaid : Prop := aheadTakesRow.holds Try.pinned (OpenSpec.ofChange aheadTakesSpec)

/-- ITS FALSE NEIGHBOUR: 'it returns false'. Refute it at one input. -/
def aheadTakesWrong : ChangeSpec := { name := "aheadTakes", fn := fun _ => fun
  | [d1, d2, d3] => { results := [.lit (.bool false)], args := [d1, d2, d3] }
  | _ => none }
def AheadTakesWrongFalsely : Prop := aheadTakesRow.holds Try.pinned (OpenSpec.ofChange aheadTakesWrong)

/-- 'bellwetherlaw16.AheadOrder': WHATEVER THE INPUT: true; the input reads as it did. -/
def aheadOrderSpec : ChangeSpec := { name := "aheadOrder", fn := fun _ => fun
  | [d1, d2, d3, d4, d5] => { results := [.lit (.bool true)], args := [d1, d2, d3, d4, d5] }
  | _ => none }
def aheadOrderRow : OpenClaim := { program := "ytjafaefiigingaa", sum := "7e8c38b26d6df74607d359f1742ace7f32f66c01475f2cf2eba6fbac0fc2061c", func := "bellwether/bellwetherlaw16.AheadOrder", spec := "aheadOrder", inPlace := ["slices.overlaps[bellwether/api.Item]"], unfollowed := true, recurses := true, apart := false }
def AheadOrderSaid : Prop := aheadOrderRow.holds Try.pinned (OpenSpec.ofChange aheadOrderSpec)

/-- ITS FALSE NEIGHBOUR: 'it returns false'. Refute it at one input. -/
def aheadOrderWrong : ChangeSpec := { name := "aheadOrder", fn := fun _ => fun
  | [d1, d2, d3, d4, d5] => { results := [.lit (.bool false)], args := [d1, d2, d3, d4, d5] }
  | _ => none }
def AheadOrderWrongFalsely : Prop := aheadOrderRow.holds Try.pinned (OpenSpec.ofChange aheadOrderWrong)

/- THE SECOND FORM. 'bulk': how many values and letters a reading holds, each counted each time it is reached (what is shared counts as often as it is met; a slice's spare places count too). A statement '..UptoSaid' is the law's where the arguments, and the package variables that the reading takes, are together of bulk at most 1048576: NARROWER than '..Said'. Prove '..Said' where nothing that the law and all that it calls make is longer than what came in: it says more and counts as full. Else prove '..UptoSaid'. A law counts once. -/
mutual
def uptoBulk {H : Type} : DataW H → Nat
  | .lit (.string bytes) => bytes.length + 1
  | .lit _ => 1
  | .nil => 1
  | .ptr d => uptoBulk d + 1
  | .slice elems spare => uptoBulkAll elems + uptoBulkAll spare + 1
  | .agg parts => uptoBulkAll parts + 1
  | .iface _ d => uptoBulk d + 1
  | .map entries => uptoBulkEntries entries + 1
  | .held _ => 1
def uptoBulkAll {H : Type} : List (DataW H) → Nat
  | [] => 0
  | d :: r => uptoBulk d + uptoBulkAll r
def uptoBulkEntries {H : Type} : List (Lit × DataW H) → Nat
  | [] => 0
  | x :: r => uptoBulkEntry x + uptoBulkEntries r
def uptoBulkEntry {H : Type} : Lit × DataW H → Nat
  | (.string bytes, d) => bytes.length + uptoBulk d + 1
  | (_, d) => uptoBulk d + 1
 end
def uptoSmall : (H : Type) → List (DataW H) → Bool := fun _ ds => decide (uptoBulkAll ds ≤ 1048576)
def OpenSpec.upto (s : _root_.Go.ChangeSpec) : _root_.Go.OpenSpec := { _root_.Go.OpenSpec.ofChange s with cond := some uptoSmall }

/-- 'bellwetherlaw17.QueueExact', WHERE WHAT IT READS IS OF BULK AT MOST 1048576: true; the input reads as it did. -/
def queueExactUptoRow : OpenClaim := { program := "ytjafaefiigingaa", sum := "7e8c38b26d6df74607d359f1742ace7f32f66c01475f2cf2eba6fbac0fc2061c", func := "bellwether/bellwetherlaw17.QueueExact", spec := "queueExact", unfollowed := true, recurses := true, apart := false, narrowed := true }
def QueueExactUptoSaid : Prop := queueExactUptoRow.holds Try.pinned (OpenSpec.upto queueExactSpec)

/-- 'bellwetherlaw17.QueueStream', WHERE WHAT IT READS IS OF BULK AT MOST 1048576: true; the input reads as it did. -/
def queueStreamUptoRow : OpenClaim := { program := "ytjafaefiigingaa", sum := "7e8c38b26d6df74607d359f1742ace7f32f66c01475f2cf2eba6fbac0fc2061c", func := "bellwether/bellwetherlaw17.QueueStream", spec := "queueStream", unfollowed := true, recurses := true, apart := false, narrowed := true }
def QueueStreamUptoSaid : Prop := queueStreamUptoRow.holds Try.pinned (OpenSpec.upto queueStreamSpec)

/-- 'bellwetherlaw17.QueueEpochs', WHERE WHAT IT READS IS OF BULK AT MOST 1048576: true; the input reads as it did. -/
def queueEpochsUptoRow : OpenClaim := { program := "ytjafaefiigingaa", sum := "7e8c38b26d6df74607d359f1742ace7f32f66c01475f2cf2eba6fbac0fc2061c", func := "bellwether/bellwetherlaw17.QueueEpochs", spec := "queueEpochs", unfollowed := true, recurses := true, apart := false, narrowed := true }
def QueueEpochsUptoSaid : Prop := queueEpochsUptoRow.holds Try.pinned (OpenSpec.upto queueEpochsSpec)

/-- 'bellwetherlaw17.QueueKinds', WHERE WHAT IT READS IS OF BULK AT MOST 1048576: true; the input reads as it did. -/
def queueKindsUptoRow : OpenClaim := { program := "ytjafaefiigingaa", sum := "7e8c38b26d6df74607d359f1742ace7f32f66c01475f2cf2eba6fbac0fc2061c", func := "bellwether/bellwetherlaw17.QueueKinds", spec := "queueKinds", unfollowed := true, recurses := true, apart := false, narrowed := true }
def QueueKindsUptoSaid : Prop := queueKindsUptoRow.holds Try.pinned (OpenSpec.upto queueKindsSpec)

/-- 'bellwetherlaw06.MsgExact', WHERE WHAT IT READS IS OF BULK AT MOST 1048576: true; the input reads as it did. -/
def msgExactUptoRow : OpenClaim := { program := "ytjafaefiigingaa", sum := "7e8c38b26d6df74607d359f1742ace7f32f66c01475f2cf2eba6fbac0fc2061c", func := "bellwether/bellwetherlaw06.MsgExact", spec := "msgExact", unfollowed := true, recurses := true, apart := false, narrowed := true }
def MsgExactUptoSaid : Prop := msgExactUptoRow.holds Try.pinned (OpenSpec.upto msgExactSpec)

/-- 'bellwetherlaw06.MsgGood', WHERE WHAT IT READS IS OF BULK AT MOST 1048576: true; the input reads as it did. -/
def msgGoodUptoRow : OpenClaim := { program := "ytjafaefiigingaa", sum := "7e8c38b26d6df74607d359f1742ace7f32f66c01475f2cf2eba6fbac0fc2061c", func := "bellwether/bellwetherlaw06.MsgGood", spec := "msgGood", unfollowed := true, recurses := true, apart := false, narrowed := true }
def MsgGoodUptoSaid : Prop := msgGoodUptoRow.holds Try.pinned (OpenSpec.upto msgGoodSpec)

/-- 'bellwetherlaw06.MsgOwn', WHERE WHAT IT READS IS OF BULK AT MOST 1048576: true; the input reads as it did. -/
def msgOwnUptoRow : OpenClaim := { program := "ytjafaefiigingaa", sum := "7e8c38b26d6df74607d359f1742ace7f32f66c01475f2cf2eba6fbac0fc2061c", func := "bellwether/bellwetherlaw06.MsgOwn", spec := "msgOwn", unfollowed := true, recurses := true, apart := false, narrowed := true }
def MsgOwnUptoSaid : Prop := msgOwnUptoRow.holds Try.pinned (OpenSpec.upto msgOwnSpec)

/-- 'bellwetherlaw16.AheadExact', WHERE WHAT IT READS IS OF BULK AT MOST 1048576: true; the input reads as it did. -/
def aheadExactUptoRow : OpenClaim := { program := "ytjafaefiigingaa", sum := "7e8c38b26d6df74607d359f1742ace7f32f66c01475f2cf2eba6fbac0fc2061c", func := "bellwether/bellwetherlaw16.AheadExact", spec := "aheadExact", inPlace := ["slices.overlaps[bellwether/api.Item]"], unfollowed := true, recurses := true, apart := false, narrowed := true }
def AheadExactUptoSaid : Prop := aheadExactUptoRow.holds Try.pinned (OpenSpec.upto aheadExactSpec)

/-- 'bellwetherlaw16.AheadTakes', WHERE WHAT IT READS IS OF BULK AT MOST 1048576: true; the input reads as it did. -/
def aheadTakesUptoRow : OpenClaim := { program := "ytjafaefiigingaa", sum := "7e8c38b26d6df74607d359f1742ace7f32f66c01475f2cf2eba6fbac0fc2061c", func := "bellwether/bellwetherlaw16.AheadTakes", spec := "aheadTakes", inPlace := ["slices.overlaps[bellwether/api.Item]"], unfollowed := true, recurses := true, apart := false, narrowed := true }
def AheadTakesUptoSaid : Prop := aheadTakesUptoRow.holds Try.pinned (OpenSpec.upto aheadTakesSpec)

/-- 'bellwetherlaw16.AheadOrder', WHERE WHAT IT READS IS OF BULK AT MOST 1048576: true; the input reads as it did. -/
def aheadOrderUptoRow : OpenClaim := { program := "ytjafaefiigingaa", sum := "7e8c38b26d6df74607d359f1742ace7f32f66c01475f2cf2eba6fbac0fc2061c", func := "bellwether/bellwetherlaw16.AheadOrder", spec := "aheadOrder", inPlace := ["slices.overlaps[bellwether/api.Item]"], unfollowed := true, recurses := true, apart := false, narrowed := true }
def AheadOrderUptoSaid : Prop := aheadOrderUptoRow.holds Try.pinned (OpenSpec.upto aheadOrderSpec)

end Rows
end Go.Proofs.Ytjafaefiigingaa
