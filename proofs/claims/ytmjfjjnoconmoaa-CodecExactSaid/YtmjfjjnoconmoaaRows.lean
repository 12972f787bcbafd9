/-
  No cell of these rows narrows 'for every input' (looked for: loops, veiled, ifaces, maps, wideKeys, modest, calm, conditions, laid).
  DERIVED. THE GIVEN ROWS OF THIS SEAT. 10 by the template 'for every input the law returns true; each argument reads behind the call as it read before'; 0 by the template 'total and deterministic' (their statements: YtmjfjjnoconmoaaTotals.lean).
  GIVEN WITH THE SEED: the statements are not yours to turn. If you find one false, say at which input.
  Laid BY PROGRAM, IN A SANDBOX (cutbox-rows.mjs): the forced cells as the released guide's own fill.sh prints them over the translation 051eafc4ac2f1358… (all of the seat's roots in one cut). By AI agents, Wed Nov 11 2026. No macro, syntax, notation, axiom, sorry.
-/
import Derived.Test.YtmjfjjnoconmoaaChecked
import GoSem.Claim
import GoSem.ClaimJoined
import GoSem.ClaimMapViews
import Derived.JoinedTies
import Derived.KernelRfl
namespace Go.Proofs.Ytmjfjjnoconmoaa
/- THE CELL 'sum', in the pinned program and in every row, IS THE sha256 OF THE DUMP (.gsa) THAT YtmjfjjnoconmoaaProg.lean LOADS. Nothing in Lean hashes anything: it is a label: what it is worth is what the hold of that sum in a sandbox is worth. -/
noncomputable def Try.pinned : Pinned := { name := "ytmjfjjnoconmoaa", sum := "051eafc4ac2f1358362078796526d4fe1ee0c197db7c0ff700bdce765525aca6", checked := Try.checked }
namespace Rows
def none {H : Type} : Left H := { results := [], args := [] }

/-- 'bellwetherlaw05.CrcExact': WHATEVER THE INPUT: true; the input reads as it did. -/
def crcExactSpec : ChangeSpec := { name := "crcExact", fn := fun _ => fun
  | [d] => { results := [.lit (.bool true)], args := [d] }
  | _ => none }
def crcExactRow : OpenClaim := { program := "ytmjfjjnoconmoaa", sum := "051eafc4ac2f1358362078796526d4fe1ee0c197db7c0ff700bdce765525aca6", func := "bellwether/bellwetherlaw05.CrcExact", spec := "crcExact", apart := false }
def CrcExactSaid : Prop := crcExactRow.holds Try.pinned (OpenSpec.ofChange crcExactSpec)

/-- ITS FALSE NEIGHBOUR: 'it returns false'. Refute it at one input. -/
def crcExactWrong : ChangeSpec := { name := "crcExact", fn := fun _ => fun
  | [d] => { results := [.lit (.bool false)], args := [d] }
  | _ => none }
def CrcExactWrongFalsely : Prop := crcExactRow.holds Try.pinned (OpenSpec.ofChange crcExactWrong)

/-- 'bellwetherlaw05.CrcBack': WHATEVER THE INPUT: true; the input reads as it did. -/
def crcBackSpec : ChangeSpec := { name := "crcBack", fn := fun _ => fun
  | [d1, d2, d3] => { results := [.lit (.bool true)], args := [d1, d2, d3] }
  | _ => none }
def crcBackRow : OpenClaim := { program := "ytmjfjjnoconmoaa", sum := "051eafc4ac2f1358362078796526d4fe1ee0c197db7c0ff700bdce765525aca6", func := "bellwether/bellwetherlaw05.CrcBack", spec := "crcBack", apart := false }
def CrcBackSaid : Prop := crcBackRow.holds Try.pinned (OpenSpec.ofChange crcBackSpec)

/-- ITS FALSE NEIGHBOUR: 'it returns false'. Refute it at one input. -/
def crcBackWrong : ChangeSpec := { name := "crcBack", fn := fun _ => fun
  | [d1, d2, d3] => { results := [.lit (.bool false)], args := [d1, d2, d3] }
  | _ => none }
def CrcBackWrongFalsely : Prop := crcBackRow.holds Try.pinned (OpenSpec.ofChange crcBackWrong)

/-- 'bellwetherlaw05.CrcLinear': WHATEVER THE INPUT: true; the input reads as it did. -/
def crcLinearSpec : ChangeSpec := { name := "crcLinear", fn := fun _ => fun
  | [d1, d2, d3] => { results := [.lit (.bool true)], args := [d1, d2, d3] }
  | _ => none }
def crcLinearRow : OpenClaim := { program := "ytmjfjjnoconmoaa", sum := "051eafc4ac2f1358362078796526d4fe1ee0c197db7c0ff700bdce765525aca6", func := "bellwether/bellwetherlaw05.CrcLinear", spec := "crcLinear", apart := false }
def CrcLinearSaid : Prop := crcLinearRow.holds Try.pinned (OpenSpec.ofChange crcLinearSpec)

/-- ITS FALSE NEIGHBOUR: 'it returns false'. Refute it at one input. -/
def crcLinearWrong : ChangeSpec := { name := "crcLinear", fn := fun _ => fun
  | [d1, d2, d3] => { results := [.lit (.bool false)], args := [d1, d2, d3] }
  | _ => none }
def CrcLinearWrongFalsely : Prop := crcLinearRow.holds Try.pinned (OpenSpec.ofChange crcLinearWrong)

/-- 'bellwetherlaw15.KeepExact': WHATEVER THE INPUT: true; the input reads as it did. -/
def keepExactSpec : ChangeSpec := { name := "keepExact", fn := fun _ => fun
  | [d1, d2, d3, d4, d5] => { results := [.lit (.bool true)], args := [d1, d2, d3, d4, d5] }
  | _ => none }
def keepExactRow : OpenClaim := { program := "ytmjfjjnoconmoaa", sum := "051eafc4ac2f1358362078796526d4fe1ee0c197db7c0ff700bdce765525aca6", func := "bellwether/bellwetherlaw15.KeepExact", spec := "keepExact", apart := false }
def KeepExactSaid : Prop := keepExactRow.holds Try.pinned (OpenSpec.ofChange keepExactSpec)

/-- ITS FALSE NEIGHBOUR: 'it returns false'. Refute it at one input. -/
def keepExactWrong : ChangeSpec := { name := "keepExact", fn := fun _ => fun
  | [d1, d2, d3, d4, d5] => { results := [.lit (.bool false)], args := [d1, d2, d3, d4, d5] }
  | _ => none }
def KeepExactWrongFalsely : Prop := keepExactRow.holds Try.pinned (OpenSpec.ofChange keepExactWrong)

/-- 'bellwetherlaw15.KeepLast': WHATEVER THE INPUT: true; the input reads as it did. -/
def keepLastSpec : ChangeSpec := { name := "keepLast", fn := fun _ => fun
  | [d1, d2, d3, d4] => { results := [.lit (.bool true)], args := [d1, d2, d3, d4] }
  | _ => none }
def keepLastRow : OpenClaim := { program := "ytmjfjjnoconmoaa", sum := "051eafc4ac2f1358362078796526d4fe1ee0c197db7c0ff700bdce765525aca6", func := "bellwether/bellwetherlaw15.KeepLast", spec := "keepLast", apart := false }
def KeepLastSaid : Prop := keepLastRow.holds Try.pinned (OpenSpec.ofChange keepLastSpec)

/-- ITS FALSE NEIGHBOUR: 'it returns false'. Refute it at one input. -/
def keepLastWrong : ChangeSpec := { name := "keepLast", fn := fun _ => fun
  | [d1, d2, d3, d4] => { results := [.lit (.bool false)], args := [d1, d2, d3, d4] }
  | _ => none }
def KeepLastWrongFalsely : Prop := keepLastRow.holds Try.pinned (OpenSpec.ofChange keepLastWrong)

/-- 'bellwetherlaw15.KeepMore': WHATEVER THE INPUT: true; the input reads as it did. -/
def keepMoreSpec : ChangeSpec := { name := "keepMore", fn := fun _ => fun
  | [d1, d2, d3, d4] => { results := [.lit (.bool true)], args := [d1, d2, d3, d4] }
  | _ => none }
def keepMoreRow : OpenClaim := { program := "ytmjfjjnoconmoaa", sum := "051eafc4ac2f1358362078796526d4fe1ee0c197db7c0ff700bdce765525aca6", func := "bellwether/bellwetherlaw15.KeepMore", spec := "keepMore", apart := false }
def KeepMoreSaid : Prop := keepMoreRow.holds Try.pinned (OpenSpec.ofChange keepMoreSpec)

/-- ITS FALSE NEIGHBOUR: 'it returns false'. Refute it at one input. -/
def keepMoreWrong : ChangeSpec := { name := "keepMore", fn := fun _ => fun
  | [d1, d2, d3, d4] => { results := [.lit (.bool false)], args := [d1, d2, d3, d4] }
  | _ => none }
def KeepMoreWrongFalsely : Prop := keepMoreRow.holds Try.pinned (OpenSpec.ofChange keepMoreWrong)

/-- 'bellwetherlaw04.CodecExact': WHATEVER THE INPUT: true; the input reads as it did. -/
def codecExactSpec : ChangeSpec := { name := "codecExact", fn := fun _ => fun
  | [d1, d2, d3, d4, d5] => { results := [.lit (.bool true)], args := [d1, d2, d3, d4, d5] }
  | _ => none }
def codecExactRow : OpenClaim := { program := "ytmjfjjnoconmoaa", sum := "051eafc4ac2f1358362078796526d4fe1ee0c197db7c0ff700bdce765525aca6", func := "bellwether/bellwetherlaw04.CodecExact", spec := "codecExact", unfollowed := true, recurses := true, apart := false }
def CodecExactSaid : Prop := codecExactRow.holds Try.pinned (OpenSpec.ofChange codecExactSpec)

/-- ITS FALSE NEIGHBOUR: 'it returns false'. Refute it at one input. -/
def codecExactWrong : ChangeSpec := { name := "codecExact", fn := fun _ => fun
  | [d1, d2, d3, d4, d5] => { results := [.lit (.bool false)], args := [d1, d2, d3, d4, d5] }
  | _ => none }
def CodecExactWrongFalsely : Prop := codecExactRow.holds Try.pinned (OpenSpec.ofChange codecExactWrong)

/-- 'bellwetherlaw04.CodecBack': WHATEVER THE INPUT: true; the input reads as it did. -/
def codecBackSpec : ChangeSpec := { name := "codecBack", fn := fun _ => fun
  | [d1, d2, d3, d4] => { results := [.lit (.bool true)], args := [d1, d2, d3, d4] }
  | _ => none }
def codecBackRow : OpenClaim := { program := "ytmjfjjnoconmoaa", sum := "051eafc4ac2f1358362078796526d4fe1ee0c197db7c0ff700bdce765525aca6", func := "bellwether/bellwetherlaw04.CodecBack", spec := "codecBack", unfollowed := true, recurses := true, apart := false }
def CodecBackSaid : Prop := codecBackRow.holds Try.pinned (OpenSpec.ofChange codecBackSpec)

/-- ITS FALSE NEIGHBOUR: 'it returns false'. Refute it at one input. -/
def codecBackWrong : ChangeSpec := { name := "codecBack", fn := fun _ => fun
  | [d1, d2, d3, d4] => { results := [.lit (.bool false)], args := [d1, d2, d3, d4] }
  | _ => none }
def CodecBackWrongFalsely : Prop := codecBackRow.holds Try.pinned (OpenSpec.ofChange codecBackWrong)

/-- 'bellwetherlaw04.CodecOrder': WHATEVER THE INPUT: true; the input reads as it did. -/
def codecOrderSpec : ChangeSpec := { name := "codecOrder", fn := fun _ => fun
  | [d1, d2, d3] => { results := [.lit (.bool true)], args := [d1, d2, d3] }
  | _ => none }
def codecOrderRow : OpenClaim := { program := "ytmjfjjnoconmoaa", sum := "051eafc4ac2f1358362078796526d4fe1ee0c197db7c0ff700bdce765525aca6", func := "bellwether/bellwetherlaw04.CodecOrder", spec := "codecOrder", unfollowed := true, recurses := true, apart := false }
def CodecOrderSaid : Prop := codecOrderRow.holds Try.pinned (OpenSpec.ofChange codecOrderSpec)

/-- ITS FALSE NEIGHBOUR: 'it returns false'. Refute it at one input. -/
def codecOrderWrong : ChangeSpec := { name := "codecOrder", fn := fun _ => fun
  | [d1, d2, d3] => { results := [.lit (.bool false)], args := [d1, d2, d3] }
  | _ => none }
def CodecOrderWrongFalsely : Prop := codecOrderRow.holds Try.pinned (OpenSpec.ofChange codecOrderWrong)

/-- 'bellwetherlaw04.CodecCut': WHATEVER THE INPUT: true; the input reads as it did. -/
def codecCutSpec : ChangeSpec := { name := "codecCut", fn := fun _ => fun
  | [d1, d2, d3, d4] => { results := [.lit (.bool true)], args := [d1, d2, d3, d4] }
  | _ => none }
def codecCutRow : OpenClaim := { program := "ytmjfjjnoconmoaa", sum := "051eafc4ac2f1358362078796526d4fe1ee0c197db7c0ff700bdce765525aca6", func := "bellwether/bellwetherlaw04.CodecCut", spec := "codecCut", unfollowed := true, recurses := true, apart := false }
def CodecCutSaid : Prop := codecCutRow.holds Try.pinned (OpenSpec.ofChange codecCutSpec)

/-- ITS FALSE NEIGHBOUR: 'it returns false'. Refute it at one input. -/
def codecCutWrong : ChangeSpec := { name := "codecCut", fn := fun _ => fun
  | [d1, d2, d3, d4] => { results := [.lit (.bool false)], args := [d1, d2, d3, d4] }
  | _ => none }
def CodecCutWrongFalsely : Prop := codecCutRow.holds Try.pinned (OpenSpec.ofChange codecCutWrong)

/- THE SECOND FORM. 'bulk': how many values and letters a reading holds, each counted each time it is reached (what is shared counts as often as it is met; a slice's spare places count too). A statement '..UptoSaid' is the law's where the arguments, and the package variables that the reading takes, are together of bulk at most 1048576: NARROWER than '..Said'. Prove '..Said' where nothing that the law and all that it calls make is longer than what came in: it says more and counts as full. Else prove '..UptoSaid'. A law counts once. -/
mutual
def uptoBulk {H : Type} : DataW H → Nat
  | .lit (.string bytes) => bytes.length + 1
  | .lit _ => 1
  | .nil => 1
  | .ptr d => uptoBulk d + 1
  | .slice elems spare => uptoBulkAll elems + uptoBulkAll spare + 1
  | .agg parts => uptoBulkAll parts + 1
  | .iface _ d => uptoBulk d + 1
  | .map entries => uptoBulkEntries entries + 1
  | .held _ => 1
def uptoBulkAll {H : Type} : List (DataW H) → Nat
  | [] => 0
  | d :: r => uptoBulk d + uptoBulkAll r
def uptoBulkEntries {H : Type} : List (Lit × DataW H) → Nat
  | [] => 0
  | x :: r => uptoBulkEntry x + uptoBulkEntries r
def uptoBulkEntry {H : Type} : Lit × DataW H → Nat
  | (.string bytes, d) => bytes.length + uptoBulk d + 1
  | (_, d) => uptoBulk d + 1
 end
def uptoSmall : (H : Type) → List (DataW H) → Bool := fun _ ds => decide (uptoBulkAll ds ≤ 1048576)
def OpenSpec.upto (s : _root_.Go.ChangeSpec) : _root_.Go.OpenSpec := { _root_.Go.OpenSpec.ofChange s with cond := some uptoSmall }

/-- 'bellwetherlaw05.CrcExact', WHERE WHAT IT READS IS OF BULK AT MOST 1048576: true; the input reads as it did. -/
def crcExactUptoRow : OpenClaim := { program := "ytmjfjjnoconmoaa", sum := "051eafc4ac2f1358362078796526d4fe1ee0c197db7c0ff700bdce765525aca6", func := "bellwether/bellwetherlaw05.CrcExact", spec := "crcExact", apart := false, narrowed := true }
def CrcExactUptoSaid : Prop := crcExactUptoRow.holds Try.pinned (OpenSpec.upto crcExactSpec)

/-- 'bellwetherlaw05.CrcBack', WHERE WHAT IT READS IS OF BULK AT MOST 1048576: true; the input reads as it did. -/
def crcBackUptoRow : OpenClaim := { program := "ytmjfjjnoconmoaa", sum := "051eafc4ac2f1358362078796526d4fe1ee0c197db7c0ff700bdce765525aca6", func := "bellwether/bellwetherlaw05.CrcBack", spec := "crcBack", apart := false, narrowed := true }
def CrcBackUptoSaid : Prop := crcBackUptoRow.holds Try.pinned (OpenSpec.upto crcBackSpec)

/-- 'bellwetherlaw05.CrcLinear', WHERE WHAT IT READS IS OF BULK AT MOST 1048576: true; the input reads as it did. -/
def crcLinearUptoRow : OpenClaim := { program := "ytmjfjjnoconmoaa", sum := "051eafc4ac2f1358362078796526d4fe1ee0c197db7c0ff700bdce765525aca6", func := "bellwether/bellwetherlaw05.CrcLinear", spec := "crcLinear", apart := false, narrowed := true }
def CrcLinearUptoSaid : Prop := crcLinearUptoRow.holds Try.pinned (OpenSpec.upto crcLinearSpec)

/-- 'bellwetherlaw15.KeepExact', WHERE WHAT IT READS IS OF BULK AT MOST 1048576: true; the input reads as it did. -/
def keepExactUptoRow : OpenClaim := { program := "ytmjfjjnoconmoaa", sum := "051eafc4ac2f1358362078796526d4fe1ee0c197db7c0ff700bdce765525aca6", func := "bellwether/bellwetherlaw15.KeepExact", spec := "keepExact", apart := false, narrowed := true }
def KeepExactUptoSaid : Prop := keepExactUptoRow.holds Try.pinned (OpenSpec.upto keepExactSpec)

/-- 'bellwetherlaw15.KeepLast', WHERE WHAT IT READS IS OF BULK AT MOST 1048576: true; the input reads as it did. -/
def keepLastUptoRow : OpenClaim := { program := "ytmjfjjnoconmoaa", sum := "051eafc4ac2f1358362078796526d4fe1ee0c197db7c0ff700bdce765525aca6", func := "bellwether/bellwetherlaw15.KeepLast", spec := "keepLast", apart := false, narrowed := true }
def KeepLastUptoSaid : Prop := keepLastUptoRow.holds Try.pinned (OpenSpec.upto keepLastSpec)

/-- 'bellwetherlaw15.KeepMore', WHERE WHAT IT READS IS OF BULK AT MOST 1048576: true; the input reads as it did. -/
def keepMoreUptoRow : OpenClaim := { program := "ytmjfjjnoconmoaa", sum := "051eafc4ac2f1358362078796526d4fe1ee0c197db7c0ff700bdce765525aca6", func := "bellwether/bellwetherlaw15.KeepMore", spec := "keepMore", apart := false, narrowed := true }
def KeepMoreUptoSaid : Prop := keepMoreUptoRow.holds Try.pinned (OpenSpec.upto keepMoreSpec)

/-- 'bellwetherlaw04.CodecExact', WHERE WHAT IT READS IS OF BULK AT MOST 1048576: true; the input reads as it did. -/
def codecExactUptoRow : OpenClaim := { program := "ytmjfjjnoconmoaa", sum := "051eafc4ac2f1358362078796526d4fe1ee0c197db7c0ff700bdce765525aca6", func := "bellwether/bellwetherlaw04.CodecExact", spec := "codecExact", unfollowed := true, recurses := true, apart := false, narrowed := true }
def CodecExactUptoSaid : Prop := codecExactUptoRow.holds Try.pinned (OpenSpec.upto codecExactSpec)

/-- 'bellwetherlaw04.CodecBack', WHERE WHAT IT READS IS OF BULK AT MOST 1048576: true; the input reads as it did. -/
def codecBackUptoRow : OpenClaim := { program := "ytmjfjjnoconmoaa", sum := "051eafc4ac2f1358362078796526d4fe1ee0c197db7c0ff700bdce765525aca6", func := "bellwether/bellwetherlaw04.CodecBack", spec := "codecBack", unfollowed := true, recurses := true, apart := false, narrowed := true }
def CodecBackUptoSaid : Prop := codecBackUptoRow.holds Try.pinned (OpenSpec.upto codecBackSpec)

/-- 'bellwetherlaw04.CodecOrder', WHERE WHAT IT READS IS OF BULK AT MOST 1048576: true; the input reads as it did. -/
def codecOrderUptoRow : OpenClaim := { program := "ytmjfjjnoconmoaa", sum := "051eafc4ac2f1358362078796526d4fe1ee0c197db7c0ff700bdce765525aca6", func := "bellwether/bellwetherlaw04.CodecOrder", spec := "codecOrder", unfollowed := true, recurses := true, apart := false, narrowed := true }
def CodecOrderUptoSaid : Prop := codecOrderUptoRow.holds Try.pinned (OpenSpec.upto codecOrderSpec)

/-- 'bellwetherlaw04.CodecCut', WHERE WHAT IT READS IS OF BULK AT MOST 1048576: true; the input reads as it did. -/
def codecCutUptoRow : OpenClaim := { program := "ytmjfjjnoconmoaa", sum := "051eafc4ac2f1358362078796526d4fe1ee0c197db7c0ff700bdce765525aca6", func := "bellwether/bellwetherlaw04.CodecCut", spec := "codecCut", unfollowed := true, recurses := true, apart := false, narrowed := true }
def CodecCutUptoSaid : Prop := codecCutUptoRow.holds Try.pinned (OpenSpec.upto codecCutSpec)

end Rows
end Go.Proofs.Ytmjfjjnoconmoaa
