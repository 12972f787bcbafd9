import Derived.Test.YtbnommmnflmaaaaKO
set_option linter.unusedSimpArgs false
set_option linter.unusedVariables false
namespace Go.Proofs.Ytbnommmnflmaaaa.KA
open Go Go.Proofs.YtbnommmnflmaaaaR Go.Proofs.Ytbnommmnflmaaaa.IK
set_option maxRecDepth 100000
set_option maxHeartbeats 4000000
def bR (asked : Int → Bool) : List (List V) := (List.range 8).map fun (k : Nat) => [.bool (asked (k : Int))]
theorem bR_get (asked : Int → Bool) {k : Nat} (hk : k < 8) : (bR asked)[k]? = some [.bool (asked (k : Int))] := by simp [bR, hk]
theorem bR_set (asked : Int → Bool) {k : Nat} (hk : k < 8) : (bR asked).set k [.bool true] = bR (fun z => asked z || decide (z = (k : Int))) := by
  have hl : (bR asked).length = 8 := by simp [bR]
  apply List.ext_getElem?
  intro j
  by_cases hj : j < 8
  · rw [bR_get _ hj, List.getElem?_set]
    by_cases e : k = j
    · subst e
      rw [if_pos rfl, if_pos (by omega)]
      simp
    · rw [if_neg e, bR_get _ hj]
      have : decide ((j : Int) = (k : Int)) = false := by simp; omega
      rw [this, Bool.or_false]
  · rw [List.getElem?_eq_none (by rw [List.length_set]; omega), List.getElem?_eq_none (by simp [bR]; omega)]
end Go.Proofs.Ytbnommmnflmaaaa.KA
