/-
  No cell of these rows narrows 'for every input' (looked for: loops, veiled, ifaces, maps, wideKeys, modest, calm, conditions, laid).
  DERIVED. THE GIVEN ROWS OF THIS SEAT. 6 by the template 'for every input the law returns true; each argument reads behind the call as it read before'; 0 by the template 'total and deterministic' (their statements: YtbnommmnflmaaaaTotals.lean).
  GIVEN WITH THE SEED: the statements are not yours to turn. If you find one false, say at which input.
  Laid BY PROGRAM, IN A SANDBOX (cutbox-rows.mjs): the forced cells as the released guide's own fill.sh prints them over the translation 1f7dae3850a2d03c… (all of the seat's roots in one cut). By AI agents, Wed Nov 11 2026. No macro, syntax, notation, axiom, sorry.
-/
import Derived.Test.YtbnommmnflmaaaaChecked
import GoSem.Claim
import GoSem.ClaimJoined
import GoSem.ClaimMapViews
import Derived.JoinedTies
import Derived.KernelRfl
namespace Go.Proofs.Ytbnommmnflmaaaa
/- THE CELL 'sum', in the pinned program and in every row, IS THE sha256 OF THE DUMP (.gsa) THAT YtbnommmnflmaaaaProg.lean LOADS. Nothing in Lean hashes anything: it is a label: what it is worth is what the hold of that sum in a sandbox is worth. -/
noncomputable def Try.pinned : Pinned := { name := "ytbnommmnflmaaaa", sum := "1f7dae3850a2d03cee65321ecde9c746994ddb6a2668d9f87918ced932aa3750", checked := Try.checked }
namespace Rows
def none {H : Type} : Left H := { results := [], args := [] }

/-- 'bellwetherlaw13.KidsCap': WHATEVER THE INPUT: true; the input reads as it did. -/
def kidsCapSpec : ChangeSpec := { name := "kidsCap", fn := fun _ => fun
  | [d1, d2, d3, d4] => { results := [.lit (.bool true)], args := [d1, d2, d3, d4] }
  | _ => none }
def kidsCapRow : OpenClaim := { program := "ytbnommmnflmaaaa", sum := "1f7dae3850a2d03cee65321ecde9c746994ddb6a2668d9f87918ced932aa3750", func := "bellwether/bellwetherlaw13.KidsCap", spec := "kidsCap", inPlace := ["slices.overlaps[bellwether/api.Kid]"], unfollowed := true, recurses := true, apart := false }
def KidsCapSaid : Prop := kidsCapRow.holds Try.pinned (OpenSpec.ofChange kidsCapSpec)

/-- ITS FALSE NEIGHBOUR: 'it returns false'. Refute it at one input. -/
def kidsCapWrong : ChangeSpec := { name := "kidsCap", fn := fun _ => fun
  | [d1, d2, d3, d4] => { results := [.lit (.bool false)], args := [d1, d2, d3, d4] }
  | _ => none }
def KidsCapWrongFalsely : Prop := kidsCapRow.holds Try.pinned (OpenSpec.ofChange kidsCapWrong)

/-- 'bellwetherlaw13.KidsDrop': WHATEVER THE INPUT: true; the input reads as it did. -/
def kidsDropSpec : ChangeSpec := { name := "kidsDrop", fn := fun _ => fun
  | [d1, d2, d3, d4, d5] => { results := [.lit (.bool true)], args := [d1, d2, d3, d4, d5] }
  | _ => none }
def kidsDropRow : OpenClaim := { program := "ytbnommmnflmaaaa", sum := "1f7dae3850a2d03cee65321ecde9c746994ddb6a2668d9f87918ced932aa3750", func := "bellwether/bellwetherlaw13.KidsDrop", spec := "kidsDrop", inPlace := ["slices.overlaps[bellwether/api.Kid]"], unfollowed := true, recurses := true, apart := false }
def KidsDropSaid : Prop := kidsDropRow.holds Try.pinned (OpenSpec.ofChange kidsDropSpec)

/-- ITS FALSE NEIGHBOUR: 'it returns false'. Refute it at one input. -/
def kidsDropWrong : ChangeSpec := { name := "kidsDrop", fn := fun _ => fun
  | [d1, d2, d3, d4, d5] => { results := [.lit (.bool false)], args := [d1, d2, d3, d4, d5] }
  | _ => none }
def KidsDropWrongFalsely : Prop := kidsDropRow.holds Try.pinned (OpenSpec.ofChange kidsDropWrong)

/-- 'bellwetherlaw13.KidsOrder': WHATEVER THE INPUT: true; the input reads as it did. -/
def kidsOrderSpec : ChangeSpec := { name := "kidsOrder", fn := fun _ => fun
  | [d1, d2, d3, d4, d5] => { results := [.lit (.bool true)], args := [d1, d2, d3, d4, d5] }
  | _ => none }
def kidsOrderRow : OpenClaim := { program := "ytbnommmnflmaaaa", sum := "1f7dae3850a2d03cee65321ecde9c746994ddb6a2668d9f87918ced932aa3750", func := "bellwether/bellwetherlaw13.KidsOrder", spec := "kidsOrder", inPlace := ["slices.overlaps[bellwether/api.Kid]"], unfollowed := true, recurses := true, apart := false }
def KidsOrderSaid : Prop := kidsOrderRow.holds Try.pinned (OpenSpec.ofChange kidsOrderSpec)

/-- ITS FALSE NEIGHBOUR: 'it returns false'. Refute it at one input. -/
def kidsOrderWrong : ChangeSpec := { name := "kidsOrder", fn := fun _ => fun
  | [d1, d2, d3, d4, d5] => { results := [.lit (.bool false)], args := [d1, d2, d3, d4, d5] }
  | _ => none }
def KidsOrderWrongFalsely : Prop := kidsOrderRow.holds Try.pinned (OpenSpec.ofChange kidsOrderWrong)

/-- 'bellwetherlaw13.KidsSent': WHATEVER THE INPUT: true; the input reads as it did. -/
def kidsSentSpec : ChangeSpec := { name := "kidsSent", fn := fun _ => fun
  | [d1, d2, d3, d4] => { results := [.lit (.bool true)], args := [d1, d2, d3, d4] }
  | _ => none }
def kidsSentRow : OpenClaim := { program := "ytbnommmnflmaaaa", sum := "1f7dae3850a2d03cee65321ecde9c746994ddb6a2668d9f87918ced932aa3750", func := "bellwether/bellwetherlaw13.KidsSent", spec := "kidsSent", inPlace := ["slices.overlaps[bellwether/api.Kid]"], unfollowed := true, recurses := true, apart := false }
def KidsSentSaid : Prop := kidsSentRow.holds Try.pinned (OpenSpec.ofChange kidsSentSpec)

/-- ITS FALSE NEIGHBOUR: 'it returns false'. Refute it at one input. -/
def kidsSentWrong : ChangeSpec := { name := "kidsSent", fn := fun _ => fun
  | [d1, d2, d3, d4] => { results := [.lit (.bool false)], args := [d1, d2, d3, d4] }
  | _ => none }
def KidsSentWrongFalsely : Prop := kidsSentRow.holds Try.pinned (OpenSpec.ofChange kidsSentWrong)

/-- 'bellwetherlaw13.KidsExact': WHATEVER THE INPUT: true; the input reads as it did. -/
def kidsExactSpec : ChangeSpec := { name := "kidsExact", fn := fun _ => fun
  | [d1, d2, d3, d4, d5, d6] => { results := [.lit (.bool true)], args := [d1, d2, d3, d4, d5, d6] }
  | _ => none }
def kidsExactRow : OpenClaim := { program := "ytbnommmnflmaaaa", sum := "1f7dae3850a2d03cee65321ecde9c746994ddb6a2668d9f87918ced932aa3750", func := "bellwether/bellwetherlaw13.KidsExact", spec := "kidsExact", inPlace := ["slices.overlaps[bellwether/api.Kid]"], unfollowed := true, recurses := true, apart := false }
def KidsExactSaid : Prop := kidsExactRow.holds Try.pinned (OpenSpec.ofChange kidsExactSpec)

/-- ITS FALSE NEIGHBOUR: 'it returns false'. Refute it at one input. -/
def kidsExactWrong : ChangeSpec := { name := "kidsExact", fn := fun _ => fun
  | [d1, d2, d3, d4, d5, d6] => { results := [.lit (.bool false)], args := [d1, d2, d3, d4, d5, d6] }
  | _ => none }
def KidsExactWrongFalsely : Prop := kidsExactRow.holds Try.pinned (OpenSpec.ofChange kidsExactWrong)

/-- 'bellwetherlaw13.KidsAge': WHATEVER THE INPUT: true; the input reads as it did. -/
def kidsAgeSpec : ChangeSpec := { name := "kidsAge", fn := fun _ => fun
  | [d1, d2, d3, d4, d5] => { results := [.lit (.bool true)], args := [d1, d2, d3, d4, d5] }
  | _ => none }
def kidsAgeRow : OpenClaim := { program := "ytbnommmnflmaaaa", sum := "1f7dae3850a2d03cee65321ecde9c746994ddb6a2668d9f87918ced932aa3750", func := "bellwether/bellwetherlaw13.KidsAge", spec := "kidsAge", inPlace := ["slices.overlaps[bellwether/api.Kid]"], unfollowed := true, recurses := true, apart := false }
def KidsAgeSaid : Prop := kidsAgeRow.holds Try.pinned (OpenSpec.ofChange kidsAgeSpec)

/-- ITS FALSE NEIGHBOUR: 'it returns false'. Refute it at one input. -/
def kidsAgeWrong : ChangeSpec := { name := "kidsAge", fn := fun _ => fun
  | [d1, d2, d3, d4, d5] => { results := [.lit (.bool false)], args := [d1, d2, d3, d4, d5] }
  | _ => none }
def KidsAgeWrongFalsely : Prop := kidsAgeRow.holds Try.pinned (OpenSpec.ofChange kidsAgeWrong)

/- THE SECOND FORM. 'bulk': how many values and letters a reading holds, each counted each time it is reached (what is shared counts as often as it is met; a slice's spare places count too). A statement '..UptoSaid' is the law's where the arguments, and the package variables that the reading takes, are together of bulk at most 1048576: NARROWER than '..Said'. Prove '..Said' where nothing that the law and all that it calls make is longer than what came in: it says more and counts as full. Else prove '..UptoSaid'. A law counts once. -/
mutual
def uptoBulk {H : Type} : DataW H → Nat
  | .lit (.string bytes) => bytes.length + 1
  | .lit _ => 1
  | .nil => 1
  | .ptr d => uptoBulk d + 1
  | .slice elems spare => uptoBulkAll elems + uptoBulkAll spare + 1
  | .agg parts => uptoBulkAll parts + 1
  | .iface _ d => uptoBulk d + 1
  | .map entries => uptoBulkEntries entries + 1
  | .held _ => 1
def uptoBulkAll {H : Type} : List (DataW H) → Nat
  | [] => 0
  | d :: r => uptoBulk d + uptoBulkAll r
def uptoBulkEntries {H : Type} : List (Lit × DataW H) → Nat
  | [] => 0
  | x :: r => uptoBulkEntry x + uptoBulkEntries r
def uptoBulkEntry {H : Type} : Lit × DataW H → Nat
  | (.string bytes, d) => bytes.length + uptoBulk d + 1
  | (_, d) => uptoBulk d + 1
 end
def uptoSmall : (H : Type) → List (DataW H) → Bool := fun _ ds => decide (uptoBulkAll ds ≤ 1048576)
def OpenSpec.upto (s : _root_.Go.ChangeSpec) : _root_.Go.OpenSpec := { _root_.Go.OpenSpec.ofChange s with cond := some uptoSmall }

/-- 'bellwetherlaw13.KidsCap', WHERE WHAT IT READS IS OF BULK AT MOST 1048576: true; the input reads as it did. -/
def kidsCapUptoRow : OpenClaim := { program := "ytbnommmnflmaaaa", sum := "1f7dae3850a2d03cee65321ecde9c746994ddb6a2668d9f87918ced932aa3750", func := "bellwether/bellwetherlaw13.KidsCap", spec := "kidsCap", inPlace := ["slices.overlaps[bellwether/api.Kid]"], unfollowed := true, recurses := true, apart := false, narrowed := true }
def KidsCapUptoSaid : Prop := kidsCapUptoRow.holds Try.pinned (OpenSpec.upto kidsCapSpec)

/-- 'bellwetherlaw13.KidsDrop', WHERE WHAT IT READS IS OF BULK AT MOST 1048576: true; the input reads as it did. -/
def kidsDropUptoRow : OpenClaim := { program := "ytbnommmnflmaaaa", sum := "1f7dae3850a2d03cee65321ecde9c746994ddb6a2668d9f87918ced932aa3750", func := "bellwether/bellwetherlaw13.KidsDrop", spec := "kidsDrop", inPlace := ["slices.overlaps[bellwether/api.Kid]"], unfollowed := true, recurses := true, apart := false, narrowed := true }
def KidsDropUptoSaid : Prop := kidsDropUptoRow.holds Try.pinned (OpenSpec.upto kidsDropSpec)

/-- 'bellwetherlaw13.KidsOrder', WHERE WHAT IT READS IS OF BULK AT MOST 1048576: true; the input reads as it did. -/
def kidsOrderUptoRow : OpenClaim := { program := "ytbnommmnflmaaaa", sum := "1f7dae3850a2d03cee65321ecde9c746994ddb6a2668d9f87918ced932aa3750", func := "bellwether/bellwetherlaw13.KidsOrder", spec := "kidsOrder", inPlace := ["slices.overlaps[bellwether/api.Kid]"], unfollowed := true, recurses := true, apart := false, narrowed := true }
def KidsOrderUptoSaid : Prop := kidsOrderUptoRow.holds Try.pinned (OpenSpec.upto kidsOrderSpec)

/-- 'bellwetherlaw13.KidsSent', WHERE WHAT IT READS IS OF BULK AT MOST 1048576: true; the input reads as it did. -/
def kidsSentUptoRow : OpenClaim := { program := "ytbnommmnflmaaaa", sum := "1f7dae3850a2d03cee65321ecde9c746994ddb6a2668d9f87918ced932aa3750", func := "bellwether/bellwetherlaw13.KidsSent", spec := "kidsSent", inPlace := ["slices.overlaps[bellwether/api.Kid]"], unfollowed := true, recurses := true, apart := false, narrowed := true }
def KidsSentUptoSaid : Prop := kidsSentUptoRow.holds Try.pinned (OpenSpec.upto kidsSentSpec)

/-- 'bellwetherlaw13.KidsExact', WHERE WHAT IT READS IS OF BULK AT MOST 1048576: true; the input reads as it did. -/
def kidsExactUptoRow : OpenClaim := { program := "ytbnommmnflmaaaa", sum := "1f7dae3850a2d03cee65321ecde9c746994ddb6a2668d9f87918ced932aa3750", func := "bellwether/bellwetherlaw13.KidsExact", spec := "kidsExact", inPlace := ["slices.overlaps[bellwether/api.Kid]"], unfollowed := true, recurses := true, apart := false, narrowed := true }
def KidsExactUptoSaid : Prop := kidsExactUptoRow.holds Try.pinned (OpenSpec.upto kidsExactSpec)

/-- 'bellwetherlaw13.KidsAge', WHERE WHAT IT READS IS OF BULK AT MOST 1048576: true; the input reads as it did. -/
def kidsAgeUptoRow : OpenClaim := { program := "ytbnommmnflmaaaa", sum := "1f7dae3850a2d03cee65321ecde9c746994ddb6a2668d9f87918ced932aa3750", func := "bellwether/bellwetherlaw13.KidsAge", spec := "kidsAge", inPlace := ["slices.overlaps[bellwether/api.Kid]"], unfollowed := true, recurses := true, apart := false, narrowed := true }
def KidsAgeUptoSaid : Prop := kidsAgeUptoRow.holds Try.pinned (OpenSpec.upto kidsAgeSpec)

end Rows
end Go.Proofs.Ytbnommmnflmaaaa
