import Derived.Test.YtjafaefiigingaaMK
set_option linter.unusedSimpArgs false
set_option linter.unusedVariables false
namespace Go.Proofs.Ytjafaefiigingaa.MA
open Go Go.Proofs.YtjafaefiigingaaR Go.Proofs.Ytjafaefiigingaa.IM
set_option maxRecDepth 100000
set_option maxHeartbeats 4000000
/-- A message with one thing wrong. -/
def bad14 (r : Nat) (m : Mg) : Mg := match r with
  | 0 => { m with k := 14 }
  | 1 => { m with t := m.f }
  | 2 => { m with f := 8 }
  | 3 => { m with fi := 0 }
  | 4 => { m with ti := 1073741825 }
  | 5 => { m with tp := 4 }
  | 6 => { m with e := 1073741825 }
  | 7 => { m with s := 1073741825 }
  | 8 => { m with l := -1 }
  | 9 => { m with v := 2147483648 }
  | 10 => { m with nd := 8 }
  | 11 => { m with h := 17 }
  | 12 => { m with pa := m.pa ++ [m.f, m.f] }
  | _ => { m with td := m.td ++ [1, 1] }
theorem bad_no (r : Nat) (hr : r < 14) (k : Int) (n v : Nat) (hk : 1 ≤ k ∧ k ≤ 13) (hn : n < 1000) (hv : v < 1000) : msgOK (bad14 r (good k n v)) = false := by
  have h : k = 1 ∨ k = 2 ∨ k = 3 ∨ k = 4 ∨ k = 5 ∨ k = 6 ∨ k = 7 ∨ k = 8 ∨ k = 9 ∨ k = 10 ∨ k = 11 ∨ k = 12 ∨ k = 13 := by omega
  match r, hr with
  | 0, _ => simp [msgOK, okM, bad14]
  | 1, _ => simp [msgOK, bad14, knownB, endsB]
  | 2, _ => simp [msgOK, bad14, knownB, endsB, inB]
  | 3, _ => simp [msgOK, bad14, knownB, endsB, inB]
  | 4, _ => rcases h with rfl | rfl | rfl | rfl | rfl | rfl | rfl | rfl | rfl | rfl | rfl | rfl | rfl <;> simp [msgOK, okM, knownB, endsB, bareB, restM, good, bad14, inB, whoseB, plM]
  | 5, _ => rcases h with rfl | rfl | rfl | rfl | rfl | rfl | rfl | rfl | rfl | rfl | rfl | rfl | rfl <;> simp [msgOK, okM, knownB, endsB, bareB, restM, good, bad14, inB, whoseB, plM]
  | 6, _ => rcases h with rfl | rfl | rfl | rfl | rfl | rfl | rfl | rfl | rfl | rfl | rfl | rfl | rfl <;> simp [msgOK, okM, knownB, endsB, bareB, restM, good, bad14, inB, whoseB, plM]
  | 7, _ => rcases h with rfl | rfl | rfl | rfl | rfl | rfl | rfl | rfl | rfl | rfl | rfl | rfl | rfl <;> simp [msgOK, okM, knownB, endsB, bareB, restM, good, bad14, inB, whoseB, plM]
  | 8, _ => rcases h with rfl | rfl | rfl | rfl | rfl | rfl | rfl | rfl | rfl | rfl | rfl | rfl | rfl <;> simp [msgOK, okM, knownB, endsB, bareB, restM, good, bad14, inB, whoseB, plM] <;> try omega
  | 9, _ => rcases h with rfl | rfl | rfl | rfl | rfl | rfl | rfl | rfl | rfl | rfl | rfl | rfl | rfl <;> simp [msgOK, okM, knownB, endsB, bareB, restM, good, bad14, inB, whoseB, plM]
  | 10, _ => rcases h with rfl | rfl | rfl | rfl | rfl | rfl | rfl | rfl | rfl | rfl | rfl | rfl | rfl <;> simp [msgOK, okM, knownB, endsB, bareB, restM, good, bad14, inB, whoseB, plM]
  | 11, _ => rcases h with rfl | rfl | rfl | rfl | rfl | rfl | rfl | rfl | rfl | rfl | rfl | rfl | rfl <;> simp [msgOK, okM, knownB, endsB, bareB, restM, good, bad14, inB, whoseB, plM]
  | 12, _ => rcases h with rfl | rfl | rfl | rfl | rfl | rfl | rfl | rfl | rfl | rfl | rfl | rfl | rfl <;> simp [msgOK, okM, knownB, endsB, bareB, restM, good, bad14, inB, whoseB, plM, wayB, nodesB, uq, uqF]
  | 13, _ => rcases h with rfl | rfl | rfl | rfl | rfl | rfl | rfl | rfl | rfl | rfl | rfl | rfl | rfl <;> simp [msgOK, okM, knownB, endsB, bareB, restM, good, bad14, inB, whoseB, plM, wayB, nodesB, uq, uqF]
  | r + 14, h => omega
/-- Has a kind this field? -/
def has9 (r : Nat) (k : Int) : Bool := match r with
  | 0 => decide (k = 2) || decide (k = 3) || decide (k = 7) || decide (k = 8) || decide (k = 9)
  | 1 => decide (k = 3) || decide (k = 7) || decide (k = 8) || decide (k = 9)
  | 2 => decide (k = 3) || decide (k = 9)
  | 3 => decide (k = 7) || decide (k = 10) || decide (k = 11) || decide (k = 12)
  | 4 => decide (k = 4) || decide (k = 10) || decide (k = 11)
  | 5 => decide (k = 10) || decide (k = 11)
  | 6 => decide (10 ≤ k)
  | 7 => decide (k = 10) || decide (k = 11)
  | _ => decide (k = 11)
def own9 (r : Nat) (x : Int) (m : Mg) : Mg := match r with
  | 0 => { m with e := 5 }
  | 1 => { m with s := 5 }
  | 2 => { m with l := 5 }
  | 3 => { m with v := 5 }
  | 4 => { m with nd := 5 }
  | 5 => { m with ic := 5 }
  | 6 => { m with c := 5 }
  | 7 => { m with h := 5 }
  | _ => { m with td := m.td ++ [x] }
theorem good_k (k : Int) (n v : Nat) : (good k n v).k = k := by
  simp only [good, apply_ite Mg.k, ite_self]
theorem own_no (r : Nat) (hr : r < 9) (x k : Int) (n v : Nat) (hk : 1 ≤ k ∧ k ≤ 13) (hn : n < 1000) (hv : v < 1000) (hh : has9 r k = false) : msgOK (own9 r x (good k n v)) = false := by
  have h : k = 1 ∨ k = 2 ∨ k = 3 ∨ k = 4 ∨ k = 5 ∨ k = 6 ∨ k = 7 ∨ k = 8 ∨ k = 9 ∨ k = 10 ∨ k = 11 ∨ k = 12 ∨ k = 13 := by omega
  match r, hr with
  | 0, _ | 1, _ | 2, _ | 3, _ | 4, _ | 5, _ | 6, _ | 7, _ | 8, _ =>
    rcases h with rfl | rfl | rfl | rfl | rfl | rfl | rfl | rfl | rfl | rfl | rfl | rfl | rfl
    all_goals (revert hh; simp [has9, msgOK, okM, knownB, endsB, bareB, restM, good, own9, inB, whoseB, plM])
  | r + 9, h => omega
end Go.Proofs.Ytjafaefiigingaa.MA
