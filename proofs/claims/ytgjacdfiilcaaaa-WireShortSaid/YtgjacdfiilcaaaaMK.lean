import Derived.Test.YtgjacdfiilcaaaaMI
import Derived.Test.YtgjacdfiilcaaaaMJ
set_option linter.unusedSimpArgs false
set_option linter.unusedVariables false
namespace Go.Proofs.Ytgjacdfiilcaaaa.MA
open Go Go.Proofs.YtgjacdfiilcaaaaR Go.Proofs.Ytgjacdfiilcaaaa.IW
set_option maxRecDepth 100000
set_option maxHeartbeats 4000000
theorem uq2 {a b : Int} (h : a ≠ b) : uq [a, b] = true := by simp [uq, uqF, Ne.symm h]
theorem good_ok (k : Int) (n v : Nat) (hk : 1 ≤ k ∧ k ≤ 13) (hn : n < 1000) (hv : v < 1000) : msgOK (good k n v) = true := by
  have h : k = 1 ∨ k = 2 ∨ k = 3 ∨ k = 4 ∨ k = 5 ∨ k = 6 ∨ k = 7 ∨ k = 8 ∨ k = 9 ∨ k = 10 ∨ k = 11 ∨ k = 12 ∨ k = 13 := by omega
  rcases h with rfl | rfl | rfl | rfl | rfl | rfl | rfl | rfl | rfl | rfl | rfl | rfl | rfl
  all_goals simp [msgOK, okM, knownB, endsB, bareB, restM, good, inB, whoseB, wayB, nodesB, uq, uqF]
  all_goals omega
end Go.Proofs.Ytgjacdfiilcaaaa.MA
