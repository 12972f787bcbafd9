/- Texts joined: KA KB KC MA MB MC EC ED QA QB QC QD QE QF AA AB AC AD AE AF AG AH FA FB GA FC FD FE. -/
import Derived.Test.YtkfcbpbnoeaheaaGreatDoorZI2
import Derived.IntWalk
set_option linter.unusedVariables false
set_option linter.unusedSimpArgs false
namespace Go.Proofs.YtkfcbpbnoeaheaaGreatDoor.KA
open Go Go.Proofs.YtkfcbpbnoeaheaaGreatDoorR IG
set_option maxRecDepth 100000
set_option maxHeartbeats 4000000
def inB (n lo hi : Int) : Bool := decide (lo ≤ n) && decide (n ≤ hi)
theorem inB_t {n lo hi : Int} (h : inB n lo hi = true) : lo ≤ n ∧ n ≤ hi := by simpa [inB] using h
theorem wi (i : Nat) (h : i < 4611686018427387904) : IntKind.i64.wrap ((i : Int) + 1) = ((i + 1 : Nat) : Int) := by rw [IntWalk.i64_in _ (by omega)]; omega
theorem wm (i : Nat) (h : i < 4611686018427387904) (h0 : 0 < i) : IntKind.i64.wrap ((i : Int) - 1) = ((i - 1 : Nat) : Int) := by rw [IntWalk.i64_in _ (by omega)]; omega
theorem take_s {α : Type} {l : List α} {i : Nat} (h : i < l.length) : l.take (i + 1) = l.take i ++ [l[i]] := by simp
structure Kd where
  (n i a : Int)
  deriving DecidableEq
abbrev eK (x : Kd) : List V := [.int .i64 x.n, .int .i64 x.i, .int .i64 x.a]
abbrev aK (x : Kd) : S := .agg (eK x)
abbrev rK (l : List Kd) : V := .row (l.map eK)
theorem takeK (l : List Kd) : (l.map eK).take l.length = l.map eK := by rw [List.take_of_length_le (by simp)]
theorem all3 (l : List Kd) : (l.map eK).all (fun x => x.length == 3) = true := by simp
def tpL : List Int := [1462484242049070477, 1775212608919665246, 3535639072113518480, 3725500155902745375]
def ndL : List Int := [2342812313538366385, 1863050908023769503, 81111313352671826, 2434324899588211290, 2454816673080883147, 1342378062264523301, 820659310660760249, 2006264061484817761]
def tpK (t : Int) : Int := tpL.getD t.toNat 0
def ndK (n : Int) : Int := ndL.getD n.toNat 0
def okT (t : Int) : Bool := inB t 0 3
def okN (n : Int) : Bool := inB n 0 7
def gap (t n : Int) : Int := if ndK n - tpK t < 0 then ndK n - tpK t + 4611686018427387904 else ndK n - tpK t
def nr (t a b : Int) : Bool := okT t && okN a && okN b && decide (gap t a < gap t b)
theorem four {P : Int → Prop} (h0 : P 0) (h1 : P 1) (h2 : P 2) (h3 : P 3) {t : Int} (h : okT t = true) : P t := by
  have := inB_t h
  have : t = 0 ∨ t = 1 ∨ t = 2 ∨ t = 3 := by omega
  rcases this with rfl | rfl | rfl | rfl <;> assumption
theorem eight {P : Int → Prop} (h0 : P 0) (h1 : P 1) (h2 : P 2) (h3 : P 3) (h4 : P 4) (h5 : P 5) (h6 : P 6) (h7 : P 7) {t : Int} (h : okN t = true) : P t := by
  have := inB_t h
  have : t = 0 ∨ t = 1 ∨ t = 2 ∨ t = 3 ∨ t = 4 ∨ t = 5 ∨ t = 6 ∨ t = 7 := by omega
  rcases this with rfl | rfl | rfl | rfl | rfl | rfl | rfl | rfl <;> assumption
theorem tp_in {t : Int} (h : okT t = true) : 0 ≤ tpK t ∧ tpK t < 4611686018427387904 := four (P := fun t => 0 ≤ tpK t ∧ tpK t < 4611686018427387904) (by decide) (by decide) (by decide) (by decide) h
theorem nd_in {t : Int} (h : okN t = true) : 0 ≤ ndK t ∧ ndK t < 4611686018427387904 := eight (P := fun t => 0 ≤ ndK t ∧ ndK t < 4611686018427387904) (by decide) (by decide) (by decide) (by decide) (by decide) (by decide) (by decide) (by decide) h
theorem e146t (N d) {t : Int} (h : okT t = true) : TT N (d + 2) 146 [iV t] = some (.tup [iV (tpK t), iV 0], []) :=
  four (P := fun t => TT N (d + 2) 146 [iV t] = some (.tup [iV (tpK t), iV 0], [])) (by kernel_rfl) (by kernel_rfl) (by kernel_rfl) (by kernel_rfl) h
theorem e147t (N d) {t : Int} (h : okN t = true) : TT N (d + 3) 147 [iV t] = some (.tup [iV (ndK t), iV 0], []) :=
  eight (P := fun t => TT N (d + 3) 147 [iV t] = some (.tup [iV (ndK t), iV 0], [])) (by kernel_rfl) (by kernel_rfl) (by kernel_rfl) (by kernel_rfl) (by kernel_rfl) (by kernel_rfl) (by kernel_rfl) (by kernel_rfl) h
theorem e115 (N d) (n b : Int) : TT N (d + 1) 115 [iV n, iV b] = some (bV (decide (n ≥ 0) && decide (n < b)), []) := by
  rw [t115, F_ev rfl]
  simp only [j115, b115, q115, qq, ww, List.replicate, Nat.reduceBEq, Nat.reduceAdd, Nat.reduceMul, Nat.reduceDiv, Nat.reduceEqDiff, Nat.reduceLeDiff, Nat.reduceLT, Int.reduceEq, Int.reduceNe, Int.reduceLT, Int.reduceLE, Int.reduceAdd, Int.reduceSub, Int.reduceMul, Int.reduceNeg, Int.reduceToNat, reduceCtorEq, reduceIte, if_true, if_false]
  repeat' (refine fin_cases (fun h1 => ?_) (fun h1 => ?_) <;> simp only [h1, j115, b115, q115, qq, ww, List.replicate, Nat.reduceBEq, Nat.reduceAdd, Nat.reduceMul, Nat.reduceDiv, Nat.reduceEqDiff, Nat.reduceLeDiff, Nat.reduceLT, Int.reduceEq, Int.reduceNe, Int.reduceLT, Int.reduceLE, Int.reduceAdd, Int.reduceSub, Int.reduceMul, Int.reduceNeg, Int.reduceToNat, reduceCtorEq, reduceIte, if_true, if_false])
  all_goals grind
theorem okT_is (t : Int) : (decide (t ≥ 0) && decide (t < 4)) = okT t := by simp only [okT, inB]; congr 1; simp; omega
theorem okN_is (t : Int) : (decide (t ≥ 0) && decide (t < 8)) = okN t := by simp only [okN, inB]; congr 1; simp; omega
theorem e83 (N d) (n : Int) : TT N (d + 2) 83 [iV n] = some (bV (okN n), []) := by
  rw [t83, F_ev rfl]
  simp only [e115, okN_is, j83, b83, q83, qq, ww, List.replicate, Nat.reduceBEq, Nat.reduceAdd, Nat.reduceMul, Nat.reduceDiv, Nat.reduceEqDiff, Nat.reduceLeDiff, Nat.reduceLT, Int.reduceEq, Int.reduceNe, Int.reduceLT, Int.reduceLE, Int.reduceAdd, Int.reduceSub, Int.reduceMul, Int.reduceNeg, Int.reduceToNat, reduceCtorEq, reduceIte, if_true, if_false]
  repeat' (refine fin_cases (fun h1 => ?_) (fun h1 => ?_) <;> simp only [h1, e115, okN_is, j83, b83, q83, qq, ww, List.replicate, Nat.reduceBEq, Nat.reduceAdd, Nat.reduceMul, Nat.reduceDiv, Nat.reduceEqDiff, Nat.reduceLeDiff, Nat.reduceLT, Int.reduceEq, Int.reduceNe, Int.reduceLT, Int.reduceLE, Int.reduceAdd, Int.reduceSub, Int.reduceMul, Int.reduceNeg, Int.reduceToNat, reduceCtorEq, reduceIte, if_true, if_false])
theorem e146f (N d) {t : Int} (h : okT t = false) : TT N (d + 2) 146 [iV t] = some (.tup [iV 0, iV 1], []) := by
  rw [t146, F_ev rfl]
  simp only [e115, okT_is, h, j146, b146, q146, qq, ww, List.replicate, Nat.reduceBEq, Nat.reduceAdd, Nat.reduceMul, Nat.reduceDiv, Nat.reduceEqDiff, Nat.reduceLeDiff, Nat.reduceLT, Int.reduceEq, Int.reduceNe, Int.reduceLT, Int.reduceLE, Int.reduceAdd, Int.reduceSub, Int.reduceMul, Int.reduceNeg, Int.reduceToNat, reduceCtorEq, reduceIte, if_true, if_false]
theorem e147f (N d) {t : Int} (h : okN t = false) : TT N (d + 3) 147 [iV t] = some (.tup [iV 0, iV 1], []) := by
  rw [t147, F_ev rfl]
  simp only [e83, h, j147, b147, q147, qq, ww, List.replicate, Nat.reduceBEq, Nat.reduceAdd, Nat.reduceMul, Nat.reduceDiv, Nat.reduceEqDiff, Nat.reduceLeDiff, Nat.reduceLT, Int.reduceEq, Int.reduceNe, Int.reduceLT, Int.reduceLE, Int.reduceAdd, Int.reduceSub, Int.reduceMul, Int.reduceNeg, Int.reduceToNat, reduceCtorEq, reduceIte, if_true, if_false]
theorem e148 (N d) {k m : Int} (hk : 0 ≤ k ∧ k < 4611686018427387904) (hm : 0 ≤ m ∧ m < 4611686018427387904) : TT N (d + 1) 148 [iV k, iV m] = some (iV (if m - k < 0 then m - k + 4611686018427387904 else m - k), []) := by
  have h1 : IntKind.i64.wrap (m - k) = m - k := IntWalk.i64_in _ (by omega)
  have h2 : m - k < 0 → IntKind.i64.wrap (m - k + 4611686018427387904) = m - k + 4611686018427387904 := fun h => IntWalk.i64_in _ (by omega)
  rw [t148, F_ev rfl]
  by_cases h : m - k < 0
  · have hd : decide (m - k < 0) = true := by simpa using h
    simp only [h1, h2 h, hd, h, j148, b148, q148, qq, ww, List.replicate, Nat.reduceBEq, Nat.reduceAdd, Nat.reduceMul, Nat.reduceDiv, Nat.reduceEqDiff, Nat.reduceLeDiff, Nat.reduceLT, Int.reduceEq, Int.reduceNe, Int.reduceLT, Int.reduceLE, Int.reduceAdd, Int.reduceSub, Int.reduceMul, Int.reduceNeg, Int.reduceToNat, reduceCtorEq, reduceIte, if_true, if_false]
  · have hd : decide (m - k < 0) = false := by simpa using h
    simp only [h1, hd, h, j148, b148, q148, qq, ww, List.replicate, Nat.reduceBEq, Nat.reduceAdd, Nat.reduceMul, Nat.reduceDiv, Nat.reduceEqDiff, Nat.reduceLeDiff, Nat.reduceLT, Int.reduceEq, Int.reduceNe, Int.reduceLT, Int.reduceLE, Int.reduceAdd, Int.reduceSub, Int.reduceMul, Int.reduceNeg, Int.reduceToNat, reduceCtorEq, reduceIte, if_true, if_false]
theorem e130t (N d) {t n : Int} (ht : okT t = true) (hn : okN n = true) : TT N (d + 4) 130 [iV t, iV n] = some (.tup [iV (gap t n), iV 0], []) := by
  rw [t130, F_ev rfl]
  simp only [e146t _ _ ht, e147t _ _ hn, e148 _ _ (tp_in ht) (nd_in hn), j130, b130, q130, qq, ww, List.replicate, Nat.reduceBEq, Nat.reduceAdd, Nat.reduceMul, Nat.reduceDiv, Nat.reduceEqDiff, Nat.reduceLeDiff, Nat.reduceLT, Int.reduceEq, Int.reduceNe, Int.reduceLT, Int.reduceLE, Int.reduceAdd, Int.reduceSub, Int.reduceMul, Int.reduceNeg, Int.reduceToNat, reduceCtorEq, reduceIte, if_true, if_false]
  rfl
theorem e130f (N d) {t n : Int} (h : (okT t && okN n) = false) : TT N (d + 4) 130 [iV t, iV n] = some (.tup [iV 0, iV 1], []) := by
  rw [t130, F_ev rfl]
  cases ht : okT t with
  | false => simp only [e146f _ _ ht, j130, b130, q130, qq, ww, List.replicate, Nat.reduceBEq, Nat.reduceAdd, Nat.reduceMul, Nat.reduceDiv, Nat.reduceEqDiff, Nat.reduceLeDiff, Nat.reduceLT, Int.reduceEq, Int.reduceNe, Int.reduceLT, Int.reduceLE, Int.reduceAdd, Int.reduceSub, Int.reduceMul, Int.reduceNeg, Int.reduceToNat, reduceCtorEq, reduceIte, if_true, if_false]
  | true =>
    rw [ht, Bool.true_and] at h
    simp only [e146t _ _ ht, e147f _ _ h, j130, b130, q130, qq, ww, List.replicate, Nat.reduceBEq, Nat.reduceAdd, Nat.reduceMul, Nat.reduceDiv, Nat.reduceEqDiff, Nat.reduceLeDiff, Nat.reduceLT, Int.reduceEq, Int.reduceNe, Int.reduceLT, Int.reduceLE, Int.reduceAdd, Int.reduceSub, Int.reduceMul, Int.reduceNeg, Int.reduceToNat, reduceCtorEq, reduceIte, if_true, if_false]
theorem e129 (N d) (t a b : Int) : TT N (d + 5) 129 [iV t, iV a, iV b] = some (bV (nr t a b), []) := by
  rw [t129, F_ev rfl]
  cases h1 : (okT t && okN a) with
  | false =>
    have hn : nr t a b = false := by simp only [nr, h1, Bool.false_and]
    cases h2 : (okT t && okN b) with
    | false => simp only [e130f _ _ h1, e130f _ _ h2, hn, j129, b129, q129, qq, ww, List.replicate, Nat.reduceBEq, Nat.reduceAdd, Nat.reduceMul, Nat.reduceDiv, Nat.reduceEqDiff, Nat.reduceLeDiff, Nat.reduceLT, Int.reduceEq, Int.reduceNe, Int.reduceLT, Int.reduceLE, Int.reduceAdd, Int.reduceSub, Int.reduceMul, Int.reduceNeg, Int.reduceToNat, reduceCtorEq, reduceIte, if_true, if_false]
    | true =>
      have h3 := Bool.and_eq_true_iff.1 h2
      simp only [e130f _ _ h1, e130t _ _ h3.1 h3.2, hn, j129, b129, q129, qq, ww, List.replicate, Nat.reduceBEq, Nat.reduceAdd, Nat.reduceMul, Nat.reduceDiv, Nat.reduceEqDiff, Nat.reduceLeDiff, Nat.reduceLT, Int.reduceEq, Int.reduceNe, Int.reduceLT, Int.reduceLE, Int.reduceAdd, Int.reduceSub, Int.reduceMul, Int.reduceNeg, Int.reduceToNat, reduceCtorEq, reduceIte, if_true, if_false]
  | true =>
    have h4 := Bool.and_eq_true_iff.1 h1
    cases h2 : (okT t && okN b) with
    | false =>
      have hn : nr t a b = false := by rw [h4.1, Bool.true_and] at h2; simp [nr, h2]
      simp only [e130t _ _ h4.1 h4.2, e130f _ _ h2, hn, j129, b129, q129, qq, ww, List.replicate, Nat.reduceBEq, Nat.reduceAdd, Nat.reduceMul, Nat.reduceDiv, Nat.reduceEqDiff, Nat.reduceLeDiff, Nat.reduceLT, Int.reduceEq, Int.reduceNe, Int.reduceLT, Int.reduceLE, Int.reduceAdd, Int.reduceSub, Int.reduceMul, Int.reduceNeg, Int.reduceToNat, reduceCtorEq, reduceIte, if_true, if_false]
    | true =>
      have h3 := Bool.and_eq_true_iff.1 h2
      have hn : nr t a b = decide (gap t a < gap t b) := by simp [nr, h4.1, h4.2, h3.2]
      simp only [e130t _ _ h4.1 h4.2, e130t _ _ h3.1 h3.2, hn, j129, b129, q129, qq, ww, List.replicate, Nat.reduceBEq, Nat.reduceAdd, Nat.reduceMul, Nat.reduceDiv, Nat.reduceEqDiff, Nat.reduceLeDiff, Nat.reduceLT, Int.reduceEq, Int.reduceNe, Int.reduceLT, Int.reduceLE, Int.reduceAdd, Int.reduceSub, Int.reduceMul, Int.reduceNeg, Int.reduceToNat, reduceCtorEq, reduceIte, if_true, if_false]
theorem e56 (N d) (n lo hi) : TT N (d + 1) 56 [iV n, iV lo, iV hi] = some (bV (inB n lo hi), []) := by
  rw [t56, F_ev rfl]
  simp only [j56, b56, q56, qq, ww, List.replicate, Nat.reduceBEq, Nat.reduceAdd, Nat.reduceMul, Nat.reduceDiv, Nat.reduceEqDiff, Nat.reduceLeDiff, Nat.reduceLT, Int.reduceEq, Int.reduceNe, Int.reduceLT, Int.reduceLE, Int.reduceAdd, Int.reduceSub, Int.reduceMul, Int.reduceNeg, Int.reduceToNat, reduceCtorEq, reduceIte, if_true, if_false]
  repeat' (refine fin_cases (fun h1 => ?_) (fun h1 => ?_) <;> simp only [h1, j56, b56, q56, qq, ww, List.replicate, Nat.reduceBEq, Nat.reduceAdd, Nat.reduceMul, Nat.reduceDiv, Nat.reduceEqDiff, Nat.reduceLeDiff, Nat.reduceLT, Int.reduceEq, Int.reduceNe, Int.reduceLT, Int.reduceLE, Int.reduceAdd, Int.reduceSub, Int.reduceMul, Int.reduceNeg, Int.reduceToNat, reduceCtorEq, reduceIte, if_true, if_false])
  all_goals grind [inB]
theorem e84 (N d) (n lo hi) : TT N (d + 1) 84 [iV n, iV lo, iV hi] = some (bV (inB n lo hi), []) := by
  rw [t84, F_ev rfl]
  simp only [j84, b84, q84, qq, ww, List.replicate, Nat.reduceBEq, Nat.reduceAdd, Nat.reduceMul, Nat.reduceDiv, Nat.reduceEqDiff, Nat.reduceLeDiff, Nat.reduceLT, Int.reduceEq, Int.reduceNe, Int.reduceLT, Int.reduceLE, Int.reduceAdd, Int.reduceSub, Int.reduceMul, Int.reduceNeg, Int.reduceToNat, reduceCtorEq, reduceIte, if_true, if_false]
  repeat' (refine fin_cases (fun h1 => ?_) (fun h1 => ?_) <;> simp only [h1, j84, b84, q84, qq, ww, List.replicate, Nat.reduceBEq, Nat.reduceAdd, Nat.reduceMul, Nat.reduceDiv, Nat.reduceEqDiff, Nat.reduceLeDiff, Nat.reduceLT, Int.reduceEq, Int.reduceNe, Int.reduceLT, Int.reduceLE, Int.reduceAdd, Int.reduceSub, Int.reduceMul, Int.reduceNeg, Int.reduceToNat, reduceCtorEq, reduceIte, if_true, if_false])
  all_goals grind [inB]
theorem e46 (N d) (n) : TT N (d + 2) 46 [iV n] = some (bV (inB n 1 1073741824), []) := by
  rw [t46, F_ev rfl]
  simp only [e84, j46, b46, q46, qq, ww, List.replicate, Nat.reduceBEq, Nat.reduceAdd, Nat.reduceMul, Nat.reduceDiv, Nat.reduceEqDiff, Nat.reduceLeDiff, Nat.reduceLT, Int.reduceEq, Int.reduceNe, Int.reduceLT, Int.reduceLE, Int.reduceAdd, Int.reduceSub, Int.reduceMul, Int.reduceNeg, Int.reduceToNat, reduceCtorEq, reduceIte, if_true, if_false]
  repeat' (refine fin_cases (fun h1 => ?_) (fun h1 => ?_) <;> simp only [h1, e84, j46, b46, q46, qq, ww, List.replicate, Nat.reduceBEq, Nat.reduceAdd, Nat.reduceMul, Nat.reduceDiv, Nat.reduceEqDiff, Nat.reduceLeDiff, Nat.reduceLT, Int.reduceEq, Int.reduceNe, Int.reduceLT, Int.reduceLE, Int.reduceAdd, Int.reduceSub, Int.reduceMul, Int.reduceNeg, Int.reduceToNat, reduceCtorEq, reduceIte, if_true, if_false])
end Go.Proofs.YtkfcbpbnoeaheaaGreatDoor.KA
namespace Go.Proofs.YtkfcbpbnoeaheaaGreatDoor.KA
open Go Go.Proofs.YtkfcbpbnoeaheaaGreatDoorR IG
set_option maxRecDepth 100000
set_option maxHeartbeats 4000000
def ix {α : Type} (p : α → Bool) : List α → Int → Int
  | [], _ => -1
  | x :: r, i => if p x then i else ix p r (i + 1)
abbrev hR (el e : Nat) (xs : List (List V)) : S := .tup [.one (.ref el e 0), .one (.row xs)]
theorem ix_some {α : Type} {p : α → Bool} : ∀ {l : List α} {i : Int}, 0 ≤ i → l.any p = true → ∃ k : Nat, ix p l i = i + k ∧ ∃ (h : k < l.length), p l[k] = true ∧ ∀ j (hj : j < k), p (l[j]'(by omega)) = false
  | [], i, _, h => by cases h
  | x :: r, i, h, ha => by
    unfold ix
    by_cases hp : p x = true
    · exact ⟨0, by simp [hp], by simp, by simpa using hp, fun j hj => by omega⟩
    · rw [if_neg hp]
      have hp' : p x = false := by simpa using hp
      rw [List.any_cons, hp', Bool.false_or] at ha
      obtain ⟨k, h1, h2, h3, h4⟩ := ix_some (l := r) (i := i + 1) (by omega) ha
      refine ⟨k + 1, by rw [h1]; omega, by simp; omega, by simpa using h3, fun j hj => ?_⟩
      cases j with
      | zero => simpa using hp'
      | succ j => simpa using h4 j (by omega)
theorem e106 (N d : Nat) (l : List Kd) (hl : l.length < 1000000) : TT N (d + 1) 106 [.one (rK l)] = some (.one (.sl 0 0 l.length), [(0, .rows 79 3 (l.map eK))]) := by
  rw [t106]
  unfold cloneM
  simp only [List.length_map]
  rw [if_pos ⟨all3 l, by omega⟩]
theorem e71 (N d : Nat) (l : List Kd) (hl : l.length < 1000000) : TT N (d + 1) 71 [.one (rK l)] = some (.one (.sl 0 0 l.length), [(0, .rows 79 3 (l.map eK))]) := by
  have hb : l.length * 24 ≤ 140737488355328 := by omega
  rw [t71, F_ev rfl]
  simp only [hb, all3, takeK, List.length_map, j71, b71, q71, qq, ww, List.replicate, Nat.reduceBEq, Nat.reduceAdd, Nat.reduceMul, Nat.reduceDiv, Nat.reduceEqDiff, Nat.reduceLeDiff, Nat.reduceLT, Int.reduceEq, Int.reduceNe, Int.reduceLT, Int.reduceLE, Int.reduceAdd, Int.reduceSub, Int.reduceMul, Int.reduceNeg, Int.reduceToNat, reduceCtorEq, reduceIte, if_true, if_false]
theorem eq_it {a b : Kd} : decide (a = b) = (decide (a.n = b.n) && (decide (a.i = b.i) && decide (a.a = b.a))) := by cases a; cases b; simp
theorem dcons {α : Type} [DecidableEq α] {a b : α} {l r : List α} : decide (a :: l = b :: r) = (decide (a = b) && decide (l = r)) := by simp
theorem e42 (N d : Nat) (a b : List Kd) (hN : a.length < N) (hl : a.length < 1000000) : TT N (d + 1) 42 [.one (rK a), .one (rK b)] = some (bV (decide (a = b)), []) := by
  rw [t42, F_ev rfl]
  simp only [List.length_map, j42, b42, q42, qq, ww, List.replicate, Nat.reduceBEq, Nat.reduceAdd, Nat.reduceMul, Nat.reduceDiv, Nat.reduceEqDiff, Nat.reduceLeDiff, Nat.reduceLT, Int.reduceEq, Int.reduceNe, Int.reduceLT, Int.reduceLE, Int.reduceAdd, Int.reduceSub, Int.reduceMul, Int.reduceNeg, Int.reduceToNat, reduceCtorEq, reduceIte, if_true, if_false]
  refine fin_cases (fun h => ?_) (fun h => ?_) <;> simp only [h, List.length_map, j42, b42, q42, qq, ww, List.replicate, Nat.reduceBEq, Nat.reduceAdd, Nat.reduceMul, Nat.reduceDiv, Nat.reduceEqDiff, Nat.reduceLeDiff, Nat.reduceLT, Int.reduceEq, Int.reduceNe, Int.reduceLT, Int.reduceLE, Int.reduceAdd, Int.reduceSub, Int.reduceMul, Int.reduceNeg, Int.reduceToNat, reduceCtorEq, reduceIte, if_true, if_false]
  · have : ¬ a = b := fun e => by subst e; simp at h
    simp [this]
  have hab : a.length = b.length := by simp at h; omega
  refine (loopK (K := fun o => fin _ (aft _ _ _ o)) (fun i => ⟨[(0, .one (rK a)), (1, .one (rK b)), (5, iV i)], []⟩) (fun i => some (bV (decide (a.drop i = b.drop i)), [])) a.length ?hr a.length 0 N _ (by omega) hN ?hk).trans ?_
  case hk => simp only [gcK, lowB, Nat.reduceLeDiff, Nat.reduceBEq, List.contains_nil, List.contains_cons, Bool.or_false, Bool.false_or, Bool.false_eq_true, if_false, Bool.true_and, Bool.and_true, pickL, look_hit, look_miss, look_end, slMent, hpMent, S.ment, S.ment.smt, ments, V.ment, List.append_nil, List.nil_append, List.cons_append, List.all_nil, List.all_cons, Option.isSome_some, Bool.and_self, if_true, reduceIte, Nat.reduceEqDiff, not_false_eq_true, reduceCtorEq, Nat.reduceMul, Nat.reduceAdd]; rfl
  case hr =>
    intro i n hi ih
    (try dsimp only)
    by_cases hlt : i < a.length
    · have h1 : decide ((i : Int) < (a.length : Int)) = true := by simp; omega
      have hg1 : (a.map eK)[i]? = some (eK a[i]) := by simp [hlt]
      have hg2 : (b.map eK)[i]? = some (eK (b[i]'(by omega))) := by simp [hab ▸ hlt]
      have hd1 : a.drop i = a[i] :: a.drop (i + 1) := by simp
      have hd2 : b.drop i = b[i]'(by omega) :: b.drop (i + 1) := by simp
      have hb : 0 ≤ (i : Int) ∧ (i : Int) < (a.length : Int) ∧ (i : Int) < (b.length : Int) := by omega
      simp only [h1, hb.1, hb.2.1, hb.2.2, List.length_map, Int.toNat_natCast, hg1, hg2, wi i (by omega), j42, b42, q42, qq, ww, List.replicate, Nat.reduceBEq, Nat.reduceAdd, Nat.reduceMul, Nat.reduceDiv, Nat.reduceEqDiff, Nat.reduceLeDiff, Nat.reduceLT, Int.reduceEq, Int.reduceNe, Int.reduceLT, Int.reduceLE, Int.reduceAdd, Int.reduceSub, Int.reduceMul, Int.reduceNeg, Int.reduceToNat, reduceCtorEq, reduceIte, if_true, if_false]
      refine fin_cases2 (fun hp => ?_) (fun hp => ?_) <;> simp only [wi i (by omega), j42, b42, q42, qq, ww, List.replicate, Nat.reduceBEq, Nat.reduceAdd, Nat.reduceMul, Nat.reduceDiv, Nat.reduceEqDiff, Nat.reduceLeDiff, Nat.reduceLT, Int.reduceEq, Int.reduceNe, Int.reduceLT, Int.reduceLE, Int.reduceAdd, Int.reduceSub, Int.reduceMul, Int.reduceNeg, Int.reduceToNat, reduceCtorEq, reduceIte, if_true, if_false]
      · have hx : decide (a[i] = b[i]'(by omega)) = false := by rw [eq_it]; simpa only [Bool.not_eq_true'] using hp
        rw [hd1, hd2, dcons, hx]; rfl
      · have hx : decide (a[i] = b[i]'(by omega)) = true := by rw [eq_it]; simpa only [Bool.not_eq_false'] using hp
        rw [hd1, hd2, dcons, hx, Bool.true_and]
        exact ih hlt _ (by simp only [gcK, lowB, Nat.reduceLeDiff, Nat.reduceBEq, List.contains_nil, List.contains_cons, Bool.or_false, Bool.false_or, Bool.false_eq_true, if_false, Bool.true_and, Bool.and_true, pickL, look_hit, look_miss, look_end, slMent, hpMent, S.ment, S.ment.smt, ments, V.ment, List.append_nil, List.nil_append, List.cons_append, List.all_nil, List.all_cons, Option.isSome_some, Bool.and_self, if_true, reduceIte, Nat.reduceEqDiff, not_false_eq_true, reduceCtorEq, Nat.reduceMul, Nat.reduceAdd])
    · have h1 : decide ((i : Int) < (a.length : Int)) = false := by simp; omega
      simp only [h1, List.length_map, j42, b42, q42, qq, ww, List.replicate, Nat.reduceBEq, Nat.reduceAdd, Nat.reduceMul, Nat.reduceDiv, Nat.reduceEqDiff, Nat.reduceLeDiff, Nat.reduceLT, Int.reduceEq, Int.reduceNe, Int.reduceLT, Int.reduceLE, Int.reduceAdd, Int.reduceSub, Int.reduceMul, Int.reduceNeg, Int.reduceToNat, reduceCtorEq, reduceIte, if_true, if_false]
      rw [List.drop_of_length_le (by omega), List.drop_of_length_le (by omega)]
      rfl
  rfl
theorem selfT (l : List Kd) : (l.map eK).all selfs = true := by simp [selfs, V.self]
end Go.Proofs.YtkfcbpbnoeaheaaGreatDoor.KA
namespace Go.Proofs.YtkfcbpbnoeaheaaGreatDoor.KA
open Go Go.Proofs.YtkfcbpbnoeaheaaGreatDoorR IG
set_option maxRecDepth 100000
set_option maxHeartbeats 4000000
def inc2 (x : Kd) : Bool := inB x.i 1 1073741824 && inB x.a 0 6
theorem e133 (N d) (t self : Int) (x : Kd) : TT N (d + 6) 133 [iV t, iV self, aK x] = some (bV (nr t self x.n && inc2 x), []) := by
  rw [t133, F_ev rfl]
  simp only [e129, e46, j133, b133, q133, qq, ww, List.replicate, Nat.reduceBEq, Nat.reduceAdd, Nat.reduceMul, Nat.reduceDiv, Nat.reduceEqDiff, Nat.reduceLeDiff, Nat.reduceLT, Int.reduceEq, Int.reduceNe, Int.reduceLT, Int.reduceLE, Int.reduceAdd, Int.reduceSub, Int.reduceMul, Int.reduceNeg, Int.reduceToNat, reduceCtorEq, reduceIte, if_true, if_false]
  repeat' (refine fin_cases (fun h1 => ?_) (fun h1 => ?_) <;> simp only [h1, e129, e46, j133, b133, q133, qq, ww, List.replicate, Nat.reduceBEq, Nat.reduceAdd, Nat.reduceMul, Nat.reduceDiv, Nat.reduceEqDiff, Nat.reduceLeDiff, Nat.reduceLT, Int.reduceEq, Int.reduceNe, Int.reduceLT, Int.reduceLE, Int.reduceAdd, Int.reduceSub, Int.reduceMul, Int.reduceNeg, Int.reduceToNat, reduceCtorEq, reduceIte, if_true, if_false])
  all_goals grind [inc2, inB]
def chn (t : Int) : Int → List Kd → Bool
  | _, [] => true
  | p, x :: r => nr t p x.n && inc2 x && chn t x.n r
def rgt (t self : Int) : Option Int → List Kd → Bool
  | _, [] => true
  | p, x :: r => nr t self x.n && inc2 x && (match p with
    | some q => nr t q x.n
    | none => true) && rgt t self (some x.n) r
theorem nr_t {t a b : Int} (h : nr t a b = true) : okT t = true ∧ okN a = true ∧ okN b = true ∧ gap t a < gap t b := by
  simp only [nr, Bool.and_eq_true, decide_eq_true_eq] at h
  exact ⟨h.1.1.1, h.1.1.2, h.1.2, h.2⟩
theorem nr_of {t a b : Int} (h1 : okT t = true) (h2 : okN a = true) (h3 : okN b = true) (h4 : gap t a < gap t b) : nr t a b = true := by simp [nr, h1, h2, h3, h4]
theorem nr_trans {t a b c : Int} (h1 : nr t a b = true) (h2 : nr t b c = true) : nr t a c = true := by
  have a1 := nr_t h1
  have a2 := nr_t h2
  exact nr_of a1.1 a1.2.1 a2.2.2.1 (by omega)
theorem rgt_chn {t self : Int} : ∀ {l : List Kd} {p : Int}, (nr t self p = true) → rgt t self (some p) l = chn t p l
  | [], p, _ => rfl
  | x :: r, p, hp => by
    cases h1 : nr t p x.n with
    | false => simp only [rgt, chn, h1, Bool.false_and, Bool.and_false]
    | true =>
      have h2 := nr_trans hp h1
      simp only [rgt, chn, h1, h2, rgt_chn h2, Bool.true_and, Bool.and_true]
theorem rgt_chn0 {t self : Int} {l : List Kd} : rgt t self none l = chn t self l := by
  cases l with
  | nil => rfl
  | cons x r =>
    cases h1 : nr t self x.n with
    | false => simp only [rgt, chn, h1, Bool.false_and]
    | true => simp only [rgt, chn, h1, rgt_chn h1, Bool.true_and, Bool.and_true]
def kOK (t self limit : Int) (l : List Kd) : Bool := okT t && okN self && inB limit 1 4 && decide ((l.length : Int) ≤ limit) && chn t self l
def prv (l : List Kd) (i : Nat) : Option Int := if i = 0 then none else (l[i - 1]?).map Kd.n
theorem prv_s {l : List Kd} {i : Nat} (h : i < l.length) : prv l (i + 1) = some l[i].n := by
  unfold prv
  rw [if_neg (by omega), Nat.add_sub_cancel, List.getElem?_eq_getElem h]
  rfl
theorem e111 (N d : Nat) (t self limit : Int) (l : List Kd) (hN : l.length < N) (hl : l.length < 1000000) : TT N (d + 7) 111 [iV t, iV self, iV limit, .one (rK l)] = some (iV (if kOK t self limit l then 0 else 1), []) := by
  rw [t111, F_ev rfl]
  cases h0 : (okT t && okN self) with
  | false =>
    have : kOK t self limit l = false := by simp [kOK, h0]
    simp only [e130f _ _ h0, this, List.length_map, j111, b111, q111, qq, ww, List.replicate, Nat.reduceBEq, Nat.reduceAdd, Nat.reduceMul, Nat.reduceDiv, Nat.reduceEqDiff, Nat.reduceLeDiff, Nat.reduceLT, Int.reduceEq, Int.reduceNe, Int.reduceLT, Int.reduceLE, Int.reduceAdd, Int.reduceSub, Int.reduceMul, Int.reduceNeg, Int.reduceToNat, reduceCtorEq, reduceIte, if_true, if_false]
  | true =>
  have h4 := Bool.and_eq_true_iff.1 h0
  simp only [e130t _ _ h4.1 h4.2, List.length_map, j111, b111, q111, qq, ww, List.replicate, Nat.reduceBEq, Nat.reduceAdd, Nat.reduceMul, Nat.reduceDiv, Nat.reduceEqDiff, Nat.reduceLeDiff, Nat.reduceLT, Int.reduceEq, Int.reduceNe, Int.reduceLT, Int.reduceLE, Int.reduceAdd, Int.reduceSub, Int.reduceMul, Int.reduceNeg, Int.reduceToNat, reduceCtorEq, reduceIte, if_true, if_false]
  refine fin_cases (fun h1 => ?_) (fun h1 => ?_) <;> simp only [h1, List.length_map, j111, b111, q111, qq, ww, List.replicate, Nat.reduceBEq, Nat.reduceAdd, Nat.reduceMul, Nat.reduceDiv, Nat.reduceEqDiff, Nat.reduceLeDiff, Nat.reduceLT, Int.reduceEq, Int.reduceNe, Int.reduceLT, Int.reduceLE, Int.reduceAdd, Int.reduceSub, Int.reduceMul, Int.reduceNeg, Int.reduceToNat, reduceCtorEq, reduceIte, if_true, if_false]
  · have : kOK t self limit l = false := by simp [kOK, inB, h4] at h1 ⊢; intros; omega
    simp [this]
  refine fin_cases (fun h2 => ?_) (fun h2 => ?_) <;> simp only [h1, h2, List.length_map, j111, b111, q111, qq, ww, List.replicate, Nat.reduceBEq, Nat.reduceAdd, Nat.reduceMul, Nat.reduceDiv, Nat.reduceEqDiff, Nat.reduceLeDiff, Nat.reduceLT, Int.reduceEq, Int.reduceNe, Int.reduceLT, Int.reduceLE, Int.reduceAdd, Int.reduceSub, Int.reduceMul, Int.reduceNeg, Int.reduceToNat, reduceCtorEq, reduceIte, if_true, if_false]
  · have : kOK t self limit l = false := by simp [kOK, inB, h4] at h2 ⊢; intros; omega
    simp [this]
  refine fin_cases (fun h3 => ?_) (fun h3 => ?_) <;> simp only [h1, h2, h3, List.length_map, j111, b111, q111, qq, ww, List.replicate, Nat.reduceBEq, Nat.reduceAdd, Nat.reduceMul, Nat.reduceDiv, Nat.reduceEqDiff, Nat.reduceLeDiff, Nat.reduceLT, Int.reduceEq, Int.reduceNe, Int.reduceLT, Int.reduceLE, Int.reduceAdd, Int.reduceSub, Int.reduceMul, Int.reduceNeg, Int.reduceToNat, reduceCtorEq, reduceIte, if_true, if_false]
  · have : kOK t self limit l = false := by simp [kOK, inB, h4] at h3 ⊢; intros; omega
    simp [this]
  have ho : kOK t self limit l = rgt t self none l := by
    have a1 : inB limit 1 4 = true := by simp [inB] at h1 h2 ⊢; omega
    have a2 : decide ((l.length : Int) ≤ limit) = true := by simp at h3 ⊢; omega
    simp [kOK, h4.1, h4.2, a1, a2, rgt_chn0]
  rw [ho]
  refine (loopK (K := fun o => fin _ (aft _ _ _ o)) (fun i => ⟨[(0, iV t), (1, iV self), (3, .one (rK l)), (35, .one (rK l)), (36, iV l.length), (37, iV i)], []⟩) (fun i => some (iV (if rgt t self (prv l i) (l.drop i) then 0 else 1), [])) l.length ?hr l.length 0 N _ (by omega) hN ?hk).trans ?_
  case hk => simp only [gcK, lowB, Nat.reduceLeDiff, Nat.reduceBEq, List.contains_nil, List.contains_cons, Bool.or_false, Bool.false_or, Bool.false_eq_true, if_false, Bool.true_and, Bool.and_true, pickL, look_hit, look_miss, look_end, slMent, hpMent, S.ment, S.ment.smt, ments, V.ment, List.append_nil, List.nil_append, List.cons_append, List.all_nil, List.all_cons, Option.isSome_some, Bool.and_self, if_true, reduceIte, Nat.reduceEqDiff, not_false_eq_true, reduceCtorEq, Nat.reduceMul, Nat.reduceAdd]; rfl
  case hr =>
    intro i n hi ih
    (try dsimp only)
    by_cases hlt : i < l.length
    · have h1 : decide ((i : Int) < (l.length : Int)) = true := by simp; omega
      have hg1 : (l.map eK)[i]? = some (eK l[i]) := by simp [hlt]
      have hd1 : l.drop i = l[i] :: l.drop (i + 1) := by simp
      have hb : 0 ≤ (i : Int) ∧ (i : Int) < (l.length : Int) := by omega
      by_cases h0 : i = 0
      · have hpos : decide ((i : Int) > 0) = false := by simp; omega
        have hpv : prv l i = none := by unfold prv; rw [if_pos h0]
        cases hB : (nr t self l[i].n && inc2 l[i]) with
        | false =>
          simp only [h1, hb.1, hb.2, hpos, hg1, e133, hB, List.length_map, Int.toNat_natCast, j111, b111, q111, qq, ww, List.replicate, Nat.reduceBEq, Nat.reduceAdd, Nat.reduceMul, Nat.reduceDiv, Nat.reduceEqDiff, Nat.reduceLeDiff, Nat.reduceLT, Int.reduceEq, Int.reduceNe, Int.reduceLT, Int.reduceLE, Int.reduceAdd, Int.reduceSub, Int.reduceMul, Int.reduceNeg, Int.reduceToNat, reduceCtorEq, reduceIte, if_true, if_false]
          rw [hd1, hpv, rgt, hB]; rfl
        | true =>
          simp only [h1, hb.1, hb.2, hpos, hg1, e133, hB, wi i (by omega), List.length_map, Int.toNat_natCast, j111, b111, q111, qq, ww, List.replicate, Nat.reduceBEq, Nat.reduceAdd, Nat.reduceMul, Nat.reduceDiv, Nat.reduceEqDiff, Nat.reduceLeDiff, Nat.reduceLT, Int.reduceEq, Int.reduceNe, Int.reduceLT, Int.reduceLE, Int.reduceAdd, Int.reduceSub, Int.reduceMul, Int.reduceNeg, Int.reduceToNat, reduceCtorEq, reduceIte, if_true, if_false]
          rw [hd1, hpv, rgt, ← prv_s hlt, hB]
          exact ih hlt _ (by simp only [gcK, lowB, Nat.reduceLeDiff, Nat.reduceBEq, List.contains_nil, List.contains_cons, Bool.or_false, Bool.false_or, Bool.false_eq_true, if_false, Bool.true_and, Bool.and_true, pickL, look_hit, look_miss, look_end, slMent, hpMent, S.ment, S.ment.smt, ments, V.ment, List.append_nil, List.nil_append, List.cons_append, List.all_nil, List.all_cons, Option.isSome_some, Bool.and_self, if_true, reduceIte, Nat.reduceEqDiff, not_false_eq_true, reduceCtorEq, Nat.reduceMul, Nat.reduceAdd])
      · obtain ⟨q, hq⟩ : ∃ q, q = l[i - 1]'(by omega) := ⟨_, rfl⟩
        have hg2 : (l.map eK)[i - 1]? = some (eK q) := by rw [List.getElem?_map, List.getElem?_eq_getElem (by omega), hq]; rfl
        have hb2 : 0 ≤ ((i - 1 : Nat) : Int) ∧ ((i - 1 : Nat) : Int) < (l.length : Int) := by omega
        have hpos : decide ((i : Int) > 0) = true := by simp; omega
        have hpv : prv l i = some q.n := by unfold prv; rw [if_neg h0, hq, List.getElem?_eq_getElem (by omega)]; rfl
        cases hB : (nr t self l[i].n && inc2 l[i]) with
        | false =>
          simp only [h1, hb.1, hb.2, hg1, hg2, hb2.1, hb2.2, hpos, hB, wm i (by omega) (by omega), e133, e129, List.length_map, Int.toNat_natCast, j111, b111, q111, qq, ww, List.replicate, Nat.reduceBEq, Nat.reduceAdd, Nat.reduceMul, Nat.reduceDiv, Nat.reduceEqDiff, Nat.reduceLeDiff, Nat.reduceLT, Int.reduceEq, Int.reduceNe, Int.reduceLT, Int.reduceLE, Int.reduceAdd, Int.reduceSub, Int.reduceMul, Int.reduceNeg, Int.reduceToNat, reduceCtorEq, reduceIte, if_true, if_false]
          rw [hd1, hpv, rgt, hB]; rfl
        | true =>
          cases hQ : nr t q.n l[i].n with
          | false =>
            simp only [h1, hb.1, hb.2, hg1, hg2, hb2.1, hb2.2, hpos, hB, hQ, wm i (by omega) (by omega), e133, e129, List.length_map, Int.toNat_natCast, j111, b111, q111, qq, ww, List.replicate, Nat.reduceBEq, Nat.reduceAdd, Nat.reduceMul, Nat.reduceDiv, Nat.reduceEqDiff, Nat.reduceLeDiff, Nat.reduceLT, Int.reduceEq, Int.reduceNe, Int.reduceLT, Int.reduceLE, Int.reduceAdd, Int.reduceSub, Int.reduceMul, Int.reduceNeg, Int.reduceToNat, reduceCtorEq, reduceIte, if_true, if_false]
            rw [hd1, hpv, rgt, hB]
            simp only [hQ]
            rfl
          | true =>
            simp only [h1, hb.1, hb.2, hg1, hg2, hb2.1, hb2.2, hpos, hB, hQ, wi i (by omega), wm i (by omega) (by omega), e133, e129, List.length_map, Int.toNat_natCast, j111, b111, q111, qq, ww, List.replicate, Nat.reduceBEq, Nat.reduceAdd, Nat.reduceMul, Nat.reduceDiv, Nat.reduceEqDiff, Nat.reduceLeDiff, Nat.reduceLT, Int.reduceEq, Int.reduceNe, Int.reduceLT, Int.reduceLE, Int.reduceAdd, Int.reduceSub, Int.reduceMul, Int.reduceNeg, Int.reduceToNat, reduceCtorEq, reduceIte, if_true, if_false]
            rw [hd1, hpv, rgt, ← prv_s hlt, hB]
            simp only [hQ]
            exact ih hlt _ (by simp only [gcK, lowB, Nat.reduceLeDiff, Nat.reduceBEq, List.contains_nil, List.contains_cons, Bool.or_false, Bool.false_or, Bool.false_eq_true, if_false, Bool.true_and, Bool.and_true, pickL, look_hit, look_miss, look_end, slMent, hpMent, S.ment, S.ment.smt, ments, V.ment, List.append_nil, List.nil_append, List.cons_append, List.all_nil, List.all_cons, Option.isSome_some, Bool.and_self, if_true, reduceIte, Nat.reduceEqDiff, not_false_eq_true, reduceCtorEq, Nat.reduceMul, Nat.reduceAdd])
    · have h1 : decide ((i : Int) < (l.length : Int)) = false := by simp; omega
      simp only [h1, List.length_map, j111, b111, q111, qq, ww, List.replicate, Nat.reduceBEq, Nat.reduceAdd, Nat.reduceMul, Nat.reduceDiv, Nat.reduceEqDiff, Nat.reduceLeDiff, Nat.reduceLT, Int.reduceEq, Int.reduceNe, Int.reduceLT, Int.reduceLE, Int.reduceAdd, Int.reduceSub, Int.reduceMul, Int.reduceNeg, Int.reduceToNat, reduceCtorEq, reduceIte, if_true, if_false]
      rw [List.drop_of_length_le (by omega)]
      rfl
  rfl
end Go.Proofs.YtkfcbpbnoeaheaaGreatDoor.KA
namespace Go.Proofs.YtkfcbpbnoeaheaaGreatDoor.MA
open Go Go.Proofs.YtkfcbpbnoeaheaaGreatDoorR IG
set_option maxRecDepth 100000
def inB (n lo hi : Int) : Bool := decide (lo ≤ n) && decide (n ≤ hi)
theorem wi (i : Nat) (h : i < 4611686018427387904) : IntKind.i64.wrap ((i : Int) + 1) = ((i + 1 : Nat) : Int) := by rw [IntWalk.i64_in _ (by omega)]; omega
theorem e84 (N d) (n lo hi) : TT N (d + 1) 84 [iV n, iV lo, iV hi] = some (bV (inB n lo hi), []) := by
  rw [t84, F_ev rfl]
  simp only [j84, b84, q84, qq, ww, List.replicate, Nat.reduceBEq, Nat.reduceAdd, Nat.reduceMul, Nat.reduceDiv, Nat.reduceEqDiff, Nat.reduceLeDiff, Nat.reduceLT, Int.reduceEq, Int.reduceNe, Int.reduceLT, Int.reduceLE, Int.reduceAdd, Int.reduceSub, Int.reduceMul, Int.reduceNeg, Int.reduceToNat, reduceCtorEq, reduceIte, if_true, if_false]
  repeat' (refine fin_cases (fun h1 => ?_) (fun h1 => ?_) <;> simp only [h1, j84, b84, q84, qq, ww, List.replicate, Nat.reduceBEq, Nat.reduceAdd, Nat.reduceMul, Nat.reduceDiv, Nat.reduceEqDiff, Nat.reduceLeDiff, Nat.reduceLT, Int.reduceEq, Int.reduceNe, Int.reduceLT, Int.reduceLE, Int.reduceAdd, Int.reduceSub, Int.reduceMul, Int.reduceNeg, Int.reduceToNat, reduceCtorEq, reduceIte, if_true, if_false])
  all_goals grind [inB]
theorem e56 (N d) (n lo hi) : TT N (d + 1) 56 [iV n, iV lo, iV hi] = some (bV (inB n lo hi), []) := by
  rw [t56, F_ev rfl]
  simp only [j56, b56, q56, qq, ww, List.replicate, Nat.reduceBEq, Nat.reduceAdd, Nat.reduceMul, Nat.reduceDiv, Nat.reduceEqDiff, Nat.reduceLeDiff, Nat.reduceLT, Int.reduceEq, Int.reduceNe, Int.reduceLT, Int.reduceLE, Int.reduceAdd, Int.reduceSub, Int.reduceMul, Int.reduceNeg, Int.reduceToNat, reduceCtorEq, reduceIte, if_true, if_false]
  repeat' (refine fin_cases (fun h1 => ?_) (fun h1 => ?_) <;> simp only [h1, j56, b56, q56, qq, ww, List.replicate, Nat.reduceBEq, Nat.reduceAdd, Nat.reduceMul, Nat.reduceDiv, Nat.reduceEqDiff, Nat.reduceLeDiff, Nat.reduceLT, Int.reduceEq, Int.reduceNe, Int.reduceLT, Int.reduceLE, Int.reduceAdd, Int.reduceSub, Int.reduceMul, Int.reduceNeg, Int.reduceToNat, reduceCtorEq, reduceIte, if_true, if_false])
  all_goals grind [inB]
theorem e46 (N d) (n) : TT N (d + 2) 46 [iV n] = some (bV (inB n 1 1073741824), []) := by
  rw [t46, F_ev rfl]
  simp only [e84, j46, b46, q46, qq, ww, List.replicate, Nat.reduceBEq, Nat.reduceAdd, Nat.reduceMul, Nat.reduceDiv, Nat.reduceEqDiff, Nat.reduceLeDiff, Nat.reduceLT, Int.reduceEq, Int.reduceNe, Int.reduceLT, Int.reduceLE, Int.reduceAdd, Int.reduceSub, Int.reduceMul, Int.reduceNeg, Int.reduceToNat, reduceCtorEq, reduceIte, if_true, if_false]
  repeat' (refine fin_cases (fun h1 => ?_) (fun h1 => ?_) <;> simp only [h1, e84, j46, b46, q46, qq, ww, List.replicate, Nat.reduceBEq, Nat.reduceAdd, Nat.reduceMul, Nat.reduceDiv, Nat.reduceEqDiff, Nat.reduceLeDiff, Nat.reduceLT, Int.reduceEq, Int.reduceNe, Int.reduceLT, Int.reduceLE, Int.reduceAdd, Int.reduceSub, Int.reduceMul, Int.reduceNeg, Int.reduceToNat, reduceCtorEq, reduceIte, if_true, if_false])
theorem e51 (N d) (n) : TT N (d + 2) 51 [iV n] = some (bV (inB n 0 2147483647), []) := by
  rw [t51, F_ev rfl]
  simp only [e84, j51, b51, q51, qq, ww, List.replicate, Nat.reduceBEq, Nat.reduceAdd, Nat.reduceMul, Nat.reduceDiv, Nat.reduceEqDiff, Nat.reduceLeDiff, Nat.reduceLT, Int.reduceEq, Int.reduceNe, Int.reduceLT, Int.reduceLE, Int.reduceAdd, Int.reduceSub, Int.reduceMul, Int.reduceNeg, Int.reduceToNat, reduceCtorEq, reduceIte, if_true, if_false]
  repeat' (refine fin_cases (fun h1 => ?_) (fun h1 => ?_) <;> simp only [h1, e84, j51, b51, q51, qq, ww, List.replicate, Nat.reduceBEq, Nat.reduceAdd, Nat.reduceMul, Nat.reduceDiv, Nat.reduceEqDiff, Nat.reduceLeDiff, Nat.reduceLT, Int.reduceEq, Int.reduceNe, Int.reduceLT, Int.reduceLE, Int.reduceAdd, Int.reduceSub, Int.reduceMul, Int.reduceNeg, Int.reduceToNat, reduceCtorEq, reduceIte, if_true, if_false])
theorem e24 (N d) (n) : TT N (d + 2) 24 [iV n] = some (bV (inB n 0 2147483647), []) := by
  rw [t24, F_ev rfl]
  simp only [e56, j24, b24, q24, qq, ww, List.replicate, Nat.reduceBEq, Nat.reduceAdd, Nat.reduceMul, Nat.reduceDiv, Nat.reduceEqDiff, Nat.reduceLeDiff, Nat.reduceLT, Int.reduceEq, Int.reduceNe, Int.reduceLT, Int.reduceLE, Int.reduceAdd, Int.reduceSub, Int.reduceMul, Int.reduceNeg, Int.reduceToNat, reduceCtorEq, reduceIte, if_true, if_false]
  repeat' (refine fin_cases (fun h1 => ?_) (fun h1 => ?_) <;> simp only [h1, e56, j24, b24, q24, qq, ww, List.replicate, Nat.reduceBEq, Nat.reduceAdd, Nat.reduceMul, Nat.reduceDiv, Nat.reduceEqDiff, Nat.reduceLeDiff, Nat.reduceLT, Int.reduceEq, Int.reduceNe, Int.reduceLT, Int.reduceLE, Int.reduceAdd, Int.reduceSub, Int.reduceMul, Int.reduceNeg, Int.reduceToNat, reduceCtorEq, reduceIte, if_true, if_false])
theorem e115 (N d) (n lo) : TT N (d + 1) 115 [iV n, iV lo] = some (bV (inB n 0 (lo - 1)), []) := by
  rw [t115, F_ev rfl]
  simp only [j115, b115, q115, qq, ww, List.replicate, Nat.reduceBEq, Nat.reduceAdd, Nat.reduceMul, Nat.reduceDiv, Nat.reduceEqDiff, Nat.reduceLeDiff, Nat.reduceLT, Int.reduceEq, Int.reduceNe, Int.reduceLT, Int.reduceLE, Int.reduceAdd, Int.reduceSub, Int.reduceMul, Int.reduceNeg, Int.reduceToNat, reduceCtorEq, reduceIte, if_true, if_false]
  repeat' (refine fin_cases (fun h1 => ?_) (fun h1 => ?_) <;> simp only [h1, j115, b115, q115, qq, ww, List.replicate, Nat.reduceBEq, Nat.reduceAdd, Nat.reduceMul, Nat.reduceDiv, Nat.reduceEqDiff, Nat.reduceLeDiff, Nat.reduceLT, Int.reduceEq, Int.reduceNe, Int.reduceLT, Int.reduceLE, Int.reduceAdd, Int.reduceSub, Int.reduceMul, Int.reduceNeg, Int.reduceToNat, reduceCtorEq, reduceIte, if_true, if_false])
  all_goals grind [inB]
theorem e83 (N d) (n) : TT N (d + 2) 83 [iV n] = some (bV (inB n 0 7), []) := by
  rw [t83, F_ev rfl]
  simp only [e115, j83, b83, q83, qq, ww, List.replicate, Nat.reduceBEq, Nat.reduceAdd, Nat.reduceMul, Nat.reduceDiv, Nat.reduceEqDiff, Nat.reduceLeDiff, Nat.reduceLT, Int.reduceEq, Int.reduceNe, Int.reduceLT, Int.reduceLE, Int.reduceAdd, Int.reduceSub, Int.reduceMul, Int.reduceNeg, Int.reduceToNat, reduceCtorEq, reduceIte, if_true, if_false]
  repeat' (refine fin_cases (fun h1 => ?_) (fun h1 => ?_) <;> simp only [h1, e115, j83, b83, q83, qq, ww, List.replicate, Nat.reduceBEq, Nat.reduceAdd, Nat.reduceMul, Nat.reduceDiv, Nat.reduceEqDiff, Nat.reduceLeDiff, Nat.reduceLT, Int.reduceEq, Int.reduceNe, Int.reduceLT, Int.reduceLE, Int.reduceAdd, Int.reduceSub, Int.reduceMul, Int.reduceNeg, Int.reduceToNat, reduceCtorEq, reduceIte, if_true, if_false])
theorem e150 (N d) (n) : TT N (d + 3) 150 [iV n] = some (bV (!inB n 0 7), []) := by
  rw [t150, F_ev rfl]
  simp only [e83, j150, b150, q150, qq, ww, List.replicate, Nat.reduceBEq, Nat.reduceAdd, Nat.reduceMul, Nat.reduceDiv, Nat.reduceEqDiff, Nat.reduceLeDiff, Nat.reduceLT, Int.reduceEq, Int.reduceNe, Int.reduceLT, Int.reduceLE, Int.reduceAdd, Int.reduceSub, Int.reduceMul, Int.reduceNeg, Int.reduceToNat, reduceCtorEq, reduceIte, if_true, if_false]
  repeat' (refine fin_cases (fun h1 => ?_) (fun h1 => ?_) <;> simp only [h1, e83, j150, b150, q150, qq, ww, List.replicate, Nat.reduceBEq, Nat.reduceAdd, Nat.reduceMul, Nat.reduceDiv, Nat.reduceEqDiff, Nat.reduceLeDiff, Nat.reduceLT, Int.reduceEq, Int.reduceNe, Int.reduceLT, Int.reduceLE, Int.reduceAdd, Int.reduceSub, Int.reduceMul, Int.reduceNeg, Int.reduceToNat, reduceCtorEq, reduceIte, if_true, if_false])
def ix {α : Type} (p : α → Bool) : List α → Int → Int
  | [], _ => -1
  | x :: r, i => if p x then i else ix p r (i + 1)
theorem ix_any {α : Type} (p : α → Bool) : ∀ (l : List α) (i : Int), 0 ≤ i → decide (ix p l i ≥ 0) = l.any p
  | [], i, h => by simp [ix]
  | x :: r, i, h => by
    have := ix_any p r (i + 1) (by omega)
    cases hp : p x <;> simp_all [ix]
theorem e157 (N d f : Nat) (p : Int → Bool) (hf : ∀ x, TT N d f [iV x] = some (bV (p x), [])) (l : List Int) (hN : l.length < N) (hl : l.length < 1000000) : TT N (d + 1) 157 [.one (rI l), .one (.fn f [])] = some (iV (ix p l 0), []) := by
  rw [t157, F_ev rfl]
  simp only [List.length_map, j157, b157, q157, qq, ww, List.replicate, Nat.reduceBEq, Nat.reduceAdd, Nat.reduceMul, Nat.reduceDiv, Nat.reduceEqDiff, Nat.reduceLeDiff, Nat.reduceLT, Int.reduceEq, Int.reduceNe, Int.reduceLT, Int.reduceLE, Int.reduceAdd, Int.reduceSub, Int.reduceMul, Int.reduceNeg, Int.reduceToNat, reduceCtorEq, reduceIte, if_true, if_false]
  refine (loopK (K := fun o => fin _ (aft _ _ _ o)) (fun i => ⟨[(0, .one (rI l)), (1, .one (.fn f [])), (7, iV l.length), (8, iV i)], []⟩) (fun i => some (iV (ix p (l.drop i) i), [])) l.length ?hr l.length 0 N _ (by omega) hN ?hk).trans ?_
  case hk => simp only [gcK, lowB, Nat.reduceLeDiff, Nat.reduceBEq, List.contains_nil, List.contains_cons, Bool.or_false, Bool.false_or, Bool.false_eq_true, if_false, Bool.true_and, Bool.and_true, pickL, look_hit, look_miss, look_end, slMent, hpMent, S.ment, S.ment.smt, ments, V.ment, List.append_nil, List.nil_append, List.cons_append, List.all_nil, List.all_cons, Option.isSome_some, Bool.and_self, if_true, reduceIte, Nat.reduceEqDiff, not_false_eq_true, reduceCtorEq, Nat.reduceMul, Nat.reduceAdd]; rfl
  case hr =>
    intro i n hi ih
    (try dsimp only)
    by_cases hlt : i < l.length
    · have h1 : decide ((i : Int) < (l.length : Int)) = true := by simp; omega
      have hget : (l.map eI)[i]? = some (eI l[i]) := by simp [hlt]
      have hd : l.drop i = l[i] :: l.drop (i + 1) := by simp
      have hb : 0 ≤ (i : Int) ∧ (i : Int) < (l.length : Int) := by omega
      simp only [h1, hb.1, hb.2, List.length_map, hget, hf, wi i (by omega), j157, b157, q157, qq, ww, List.replicate, Nat.reduceBEq, Nat.reduceAdd, Nat.reduceMul, Nat.reduceDiv, Nat.reduceEqDiff, Nat.reduceLeDiff, Nat.reduceLT, Int.reduceEq, Int.reduceNe, Int.reduceLT, Int.reduceLE, Int.reduceAdd, Int.reduceSub, Int.reduceMul, Int.reduceNeg, Int.reduceToNat, reduceCtorEq, reduceIte, if_true, if_false]
      refine fin_cases2 (fun hp => ?_) (fun hp => ?_) <;> simp only [wi i (by omega), j157, b157, q157, qq, ww, List.replicate, Nat.reduceBEq, Nat.reduceAdd, Nat.reduceMul, Nat.reduceDiv, Nat.reduceEqDiff, Nat.reduceLeDiff, Nat.reduceLT, Int.reduceEq, Int.reduceNe, Int.reduceLT, Int.reduceLE, Int.reduceAdd, Int.reduceSub, Int.reduceMul, Int.reduceNeg, Int.reduceToNat, reduceCtorEq, reduceIte, if_true, if_false]
      · rw [hd, ix, hp, if_pos rfl]
      · rw [hd, ix, hp, if_neg (by decide)]
        exact ih hlt _ (by simp only [gcK, lowB, Nat.reduceLeDiff, Nat.reduceBEq, List.contains_nil, List.contains_cons, Bool.or_false, Bool.false_or, Bool.false_eq_true, if_false, Bool.true_and, Bool.and_true, pickL, look_hit, look_miss, look_end, slMent, hpMent, S.ment, S.ment.smt, ments, V.ment, List.append_nil, List.nil_append, List.cons_append, List.all_nil, List.all_cons, Option.isSome_some, Bool.and_self, if_true, reduceIte, Nat.reduceEqDiff, not_false_eq_true, reduceCtorEq, Nat.reduceMul, Nat.reduceAdd])
    · have h1 : decide ((i : Int) < (l.length : Int)) = false := by simp; omega
      simp only [h1, j157, b157, q157, qq, ww, List.replicate, Nat.reduceBEq, Nat.reduceAdd, Nat.reduceMul, Nat.reduceDiv, Nat.reduceEqDiff, Nat.reduceLeDiff, Nat.reduceLT, Int.reduceEq, Int.reduceNe, Int.reduceLT, Int.reduceLE, Int.reduceAdd, Int.reduceSub, Int.reduceMul, Int.reduceNeg, Int.reduceToNat, reduceCtorEq, reduceIte, if_true, if_false]
      rw [List.drop_of_length_le (by omega)]
      rfl
  rfl
theorem e149 (N d f : Nat) (p : Int → Bool) (hf : ∀ x, TT N d f [iV x] = some (bV (p x), [])) (l : List Int) (hN : l.length < N) (hl : l.length < 1000000) : TT N (d + 2) 149 [.one (rI l), .one (.fn f [])] = some (bV (l.any p), []) := by
  rw [t149, F_ev rfl]
  simp only [e157 N d f p hf l hN hl, j149, b149, q149, qq, ww, List.replicate, Nat.reduceBEq, Nat.reduceAdd, Nat.reduceMul, Nat.reduceDiv, Nat.reduceEqDiff, Nat.reduceLeDiff, Nat.reduceLT, Int.reduceEq, Int.reduceNe, Int.reduceLT, Int.reduceLE, Int.reduceAdd, Int.reduceSub, Int.reduceMul, Int.reduceNeg, Int.reduceToNat, reduceCtorEq, reduceIte, if_true, if_false]
  simp [ix_any]
theorem any_not {α : Type} (p : α → Bool) (l : List α) : l.any (fun x => !p x) = !l.all p := by
  induction l with
  | nil => rfl
  | cons a r ih => simp only [List.any_cons, List.all_cons, ih]; cases p a <;> simp
theorem e131 (N d : Nat) (l : List Int) (hN : l.length < N) (hl : l.length < 1000000) : TT N (d + 6) 131 [.one (rI l)] = some (bV (l.all fun n => inB n 0 7), []) := by
  have h89 := fun d => e149 N (d + 3) 150 (fun x => !inB x 0 7) (fun x => e150 N d x) l hN hl
  rw [t131, F_ev rfl]
  simp only [h89, any_not, Bool.not_not, j131, b131, q131, qq, ww, List.replicate, Nat.reduceBEq, Nat.reduceAdd, Nat.reduceMul, Nat.reduceDiv, Nat.reduceEqDiff, Nat.reduceLeDiff, Nat.reduceLT, Int.reduceEq, Int.reduceNe, Int.reduceLT, Int.reduceLE, Int.reduceAdd, Int.reduceSub, Int.reduceMul, Int.reduceNeg, Int.reduceToNat, reduceCtorEq, reduceIte, if_true, if_false]
end Go.Proofs.YtkfcbpbnoeaheaaGreatDoor.MA
namespace Go.Proofs.YtkfcbpbnoeaheaaGreatDoor.MA
open Go Go.Proofs.YtkfcbpbnoeaheaaGreatDoorR IG
set_option maxRecDepth 100000
theorem take_s {α : Type} {l : List α} {i : Nat} (h : i < l.length) : l.take (i + 1) = l.take i ++ [l[i]] := by simp
theorem all1 (l : List Int) : (l.map eI).all (fun x => x.length == 1) = true := by simp
end Go.Proofs.YtkfcbpbnoeaheaaGreatDoor.MA
namespace Go.Proofs.YtkfcbpbnoeaheaaGreatDoor.MA
open Go Go.Proofs.YtkfcbpbnoeaheaaGreatDoorR IG
set_option maxRecDepth 100000
theorem dcons {α : Type} [DecidableEq α] {x y : α} {r q : List α} : decide (x :: r = y :: q) = (decide (x = y) && decide (r = q)) := by simp
theorem e75 (N d : Nat) (a b : List Int) (hN : a.length < N) (hl : a.length < 1000000) : TT N (d + 1) 75 [.one (rI a), .one (rI b)] = some (bV (decide (a = b)), []) := by
  rw [t75, F_ev rfl]
  simp only [List.length_map, j75, b75, q75, qq, ww, List.replicate, Nat.reduceBEq, Nat.reduceAdd, Nat.reduceMul, Nat.reduceDiv, Nat.reduceEqDiff, Nat.reduceLeDiff, Nat.reduceLT, Int.reduceEq, Int.reduceNe, Int.reduceLT, Int.reduceLE, Int.reduceAdd, Int.reduceSub, Int.reduceMul, Int.reduceNeg, Int.reduceToNat, reduceCtorEq, reduceIte, if_true, if_false]
  refine fin_cases (fun h => ?_) (fun h => ?_) <;> simp only [h, List.length_map, j75, b75, q75, qq, ww, List.replicate, Nat.reduceBEq, Nat.reduceAdd, Nat.reduceMul, Nat.reduceDiv, Nat.reduceEqDiff, Nat.reduceLeDiff, Nat.reduceLT, Int.reduceEq, Int.reduceNe, Int.reduceLT, Int.reduceLE, Int.reduceAdd, Int.reduceSub, Int.reduceMul, Int.reduceNeg, Int.reduceToNat, reduceCtorEq, reduceIte, if_true, if_false]
  · have : ¬ a = b := fun e => by subst e; simp at h
    simp [this]
  have hab : a.length = b.length := by simp at h; omega
  refine (loopK (K := fun o => fin _ (aft _ _ _ o)) (fun i => ⟨[(0, .one (rI a)), (1, .one (rI b)), (5, iV i)], []⟩) (fun i => some (bV (decide (a.drop i = b.drop i)), [])) a.length ?hr a.length 0 N _ (by omega) hN ?hk).trans ?_
  case hk => simp only [gcK, lowB, Nat.reduceLeDiff, Nat.reduceBEq, List.contains_nil, List.contains_cons, Bool.or_false, Bool.false_or, Bool.false_eq_true, if_false, Bool.true_and, Bool.and_true, pickL, look_hit, look_miss, look_end, slMent, hpMent, S.ment, S.ment.smt, ments, V.ment, List.append_nil, List.nil_append, List.cons_append, List.all_nil, List.all_cons, Option.isSome_some, Bool.and_self, if_true, reduceIte, Nat.reduceEqDiff, not_false_eq_true, reduceCtorEq, Nat.reduceMul, Nat.reduceAdd]; rfl
  case hr =>
    intro i n hi ih
    (try dsimp only)
    by_cases hlt : i < a.length
    · have h1 : decide ((i : Int) < (a.length : Int)) = true := by simp; omega
      have hg1 : (a.map eI)[i]? = some (eI a[i]) := by simp [hlt]
      have hg2 : (b.map eI)[i]? = some (eI (b[i]'(by omega))) := by simp [hab ▸ hlt]
      have hd1 : a.drop i = a[i] :: a.drop (i + 1) := by simp
      have hd2 : b.drop i = b[i]'(by omega) :: b.drop (i + 1) := by simp
      have hb : 0 ≤ (i : Int) ∧ (i : Int) < (a.length : Int) ∧ (i : Int) < (b.length : Int) := by omega
      simp only [h1, hb.1, hb.2.1, hb.2.2, List.length_map, hg1, hg2, wi i (by omega), j75, b75, q75, qq, ww, List.replicate, Nat.reduceBEq, Nat.reduceAdd, Nat.reduceMul, Nat.reduceDiv, Nat.reduceEqDiff, Nat.reduceLeDiff, Nat.reduceLT, Int.reduceEq, Int.reduceNe, Int.reduceLT, Int.reduceLE, Int.reduceAdd, Int.reduceSub, Int.reduceMul, Int.reduceNeg, Int.reduceToNat, reduceCtorEq, reduceIte, if_true, if_false]
      refine fin_cases2 (fun hp => ?_) (fun hp => ?_) <;> simp only [wi i (by omega), j75, b75, q75, qq, ww, List.replicate, Nat.reduceBEq, Nat.reduceAdd, Nat.reduceMul, Nat.reduceDiv, Nat.reduceEqDiff, Nat.reduceLeDiff, Nat.reduceLT, Int.reduceEq, Int.reduceNe, Int.reduceLT, Int.reduceLE, Int.reduceAdd, Int.reduceSub, Int.reduceMul, Int.reduceNeg, Int.reduceToNat, reduceCtorEq, reduceIte, if_true, if_false]
      · rw [hd1, hd2, dcons, show decide (a[i] = b[i]'(by omega)) = false by simpa only [Bool.not_eq_true'] using hp]; rfl
      · rw [hd1, hd2, dcons, show decide (a[i] = b[i]'(by omega)) = true by simpa only [Bool.not_eq_false'] using hp, Bool.true_and]
        exact ih hlt _ (by simp only [gcK, lowB, Nat.reduceLeDiff, Nat.reduceBEq, List.contains_nil, List.contains_cons, Bool.or_false, Bool.false_or, Bool.false_eq_true, if_false, Bool.true_and, Bool.and_true, pickL, look_hit, look_miss, look_end, slMent, hpMent, S.ment, S.ment.smt, ments, V.ment, List.append_nil, List.nil_append, List.cons_append, List.all_nil, List.all_cons, Option.isSome_some, Bool.and_self, if_true, reduceIte, Nat.reduceEqDiff, not_false_eq_true, reduceCtorEq, Nat.reduceMul, Nat.reduceAdd])
    · have h1 : decide ((i : Int) < (a.length : Int)) = false := by simp; omega
      simp only [h1, List.length_map, j75, b75, q75, qq, ww, List.replicate, Nat.reduceBEq, Nat.reduceAdd, Nat.reduceMul, Nat.reduceDiv, Nat.reduceEqDiff, Nat.reduceLeDiff, Nat.reduceLT, Int.reduceEq, Int.reduceNe, Int.reduceLT, Int.reduceLE, Int.reduceAdd, Int.reduceSub, Int.reduceMul, Int.reduceNeg, Int.reduceToNat, reduceCtorEq, reduceIte, if_true, if_false]
      rw [List.drop_of_length_le (by omega), List.drop_of_length_le (by omega)]
      rfl
  rfl
theorem e70 (N d : Nat) (l : List Int) (hl : l.length < 1000000) : TT N (d + 1) 70 [.one (rI l)] = some (.one (.sl 0 0 l.length), [(0, .rows 3 1 (l.map eI))]) := by
  have hb : l.length * 8 ≤ 140737488355328 := by omega
  rw [t70, F_ev rfl]
  simp only [List.length_map, all1, hb, j70, b70, q70, qq, ww, List.replicate, Nat.reduceBEq, Nat.reduceAdd, Nat.reduceMul, Nat.reduceDiv, Nat.reduceEqDiff, Nat.reduceLeDiff, Nat.reduceLT, Int.reduceEq, Int.reduceNe, Int.reduceLT, Int.reduceLE, Int.reduceAdd, Int.reduceSub, Int.reduceMul, Int.reduceNeg, Int.reduceToNat, reduceCtorEq, reduceIte, if_true, if_false]
  rw [List.take_of_length_le (by simp)]
end Go.Proofs.YtkfcbpbnoeaheaaGreatDoor.MA
namespace Go.Proofs.YtkfcbpbnoeaheaaGreatDoor.EC
open Go Go.Proofs.YtkfcbpbnoeaheaaGreatDoorR IG EA
set_option maxRecDepth 100000
set_option maxHeartbeats 4000000
theorem e125 (N d : Nat) (s : ByteArray) (n lo hi e : Int) : TT N (d + 1) 125 [.one (.k (.string s)), iV n, iV lo, iV hi, iV e] = some (.one (oV (if lo ≤ n ∧ n ≤ hi then none else some (s, e))), []) := by
  rw [t125, F_ev rfl]
  simp only [j125, b125, q125, qq, ww, List.replicate, Nat.reduceBEq, Nat.reduceAdd, Nat.reduceMul, Nat.reduceDiv, Nat.reduceEqDiff, Nat.reduceLeDiff, Nat.reduceLT, Int.reduceEq, Int.reduceNe, Int.reduceLT, Int.reduceLE, Int.reduceAdd, Int.reduceSub, Int.reduceMul, Int.reduceNeg, Int.reduceToNat, reduceCtorEq, reduceIte, if_true, if_false]
  refine fin_cases (fun h1 => ?_) (fun h1 => ?_) <;> simp only [h1, blkMents, Blk.mentB, j125, b125, q125, qq, ww, List.replicate, Nat.reduceBEq, Nat.reduceAdd, Nat.reduceMul, Nat.reduceDiv, Nat.reduceEqDiff, Nat.reduceLeDiff, Nat.reduceLT, Int.reduceEq, Int.reduceNe, Int.reduceLT, Int.reduceLE, Int.reduceAdd, Int.reduceSub, Int.reduceMul, Int.reduceNeg, Int.reduceToNat, reduceCtorEq, reduceIte, if_true, if_false]
  · have h1 : n < lo := by simpa using h1
    rw [if_neg (by omega)]
    rfl
  · have h1 : ¬ n < lo := by simpa using h1
    refine fin_cases (fun h2 => ?_) (fun h2 => ?_) <;> simp only [h2, blkMents, Blk.mentB, j125, b125, q125, qq, ww, List.replicate, Nat.reduceBEq, Nat.reduceAdd, Nat.reduceMul, Nat.reduceDiv, Nat.reduceEqDiff, Nat.reduceLeDiff, Nat.reduceLT, Int.reduceEq, Int.reduceNe, Int.reduceLT, Int.reduceLE, Int.reduceAdd, Int.reduceSub, Int.reduceMul, Int.reduceNeg, Int.reduceToNat, reduceCtorEq, reduceIte, if_true, if_false]
    · have h2 : hi < n := by simpa using h2
      rw [if_neg (by omega)]
      rfl
    · have h2 : ¬ hi < n := by simpa using h2
      rw [if_pos (by omega)]
      rfl
theorem e124 (N d : Nat) (os : List Ow) (hN : os.length < N) (hl : os.length < 1000000) : TT N (d + 1) 124 [.one (.row (oR os))] = some (.one (joinV os), []) := by
  have hol : (oR os).length = os.length := by simp [oR]
  have hget : ∀ {i : Nat} (h : i < os.length), (oR os)[i]? = some [oV os[i]] := fun h => by simp [oR, h]
  have hle := oks_le os
  rw [t124, F_ev rfl]
  simp only [j124, b124, q124, qq, ww, List.replicate, Nat.reduceBEq, Nat.reduceAdd, Nat.reduceMul, Nat.reduceDiv, Nat.reduceEqDiff, Nat.reduceLeDiff, Nat.reduceLT, Int.reduceEq, Int.reduceNe, Int.reduceLT, Int.reduceLE, Int.reduceAdd, Int.reduceSub, Int.reduceMul, Int.reduceNeg, Int.reduceToNat, reduceCtorEq, reduceIte, if_true, if_false]
  refine loopK (K := fun o => fin _ (aft _ _ _ o)) (fun i => ⟨[(0, .one (.row (oR os))), (3, iV (oks (os.take i)).length), (9, .one (.row (oR os))), (10, iV (oR os).length), (11, iV i)], []⟩) (fun i => some (.one (joinV os), [])) os.length ?hr os.length 0 N _ (by omega) hN ?hk
  case hk => simp only [gcK, lowB, Nat.reduceLeDiff, Nat.reduceBEq, List.contains_nil, List.contains_cons, Bool.or_false, Bool.false_or, Bool.false_eq_true, if_false, Bool.true_and, Bool.and_true, pickL, look_hit, look_miss, look_end, slMent, hpMent, S.ment, S.ment.smt, ments, V.ment, List.append_nil, List.nil_append, List.cons_append, List.all_nil, List.all_cons, Option.isSome_some, Bool.and_self, if_true, reduceIte, Nat.reduceEqDiff, not_false_eq_true, reduceCtorEq, Nat.reduceMul, Nat.reduceAdd]; rfl
  case hr =>
    intro i q hi ih
    (try dsimp only)
    by_cases hlt : i < os.length
    · have g1 : decide ((i : Int) < ((oR os).length : Int)) = true := by rw [hol]; simp; omega
      have hb : 0 ≤ (i : Int) ∧ (i : Int) < ((oR os).length : Int) := by rw [hol]; omega
      have hs := hget hlt
      have hst := oks_s hlt
      have hti := oks_le (os.take i)
      rw [List.length_take] at hti
      cases ho : os[i] with
      | none =>
        rw [ho] at hs hst
        simp only [oV] at hs
        simp only [g1, hb.1, hb.2, hs, wi i (by omega), Int.toNat_natCast, j124, b124, q124, qq, ww, List.replicate, Nat.reduceBEq, Nat.reduceAdd, Nat.reduceMul, Nat.reduceDiv, Nat.reduceEqDiff, Nat.reduceLeDiff, Nat.reduceLT, Int.reduceEq, Int.reduceNe, Int.reduceLT, Int.reduceLE, Int.reduceAdd, Int.reduceSub, Int.reduceMul, Int.reduceNeg, Int.reduceToNat, reduceCtorEq, reduceIte, if_true, if_false]
        exact ih hlt _ (by simp only [hst, List.append_nil, gcK, lowB, Nat.reduceLeDiff, Nat.reduceBEq, List.contains_nil, List.contains_cons, Bool.or_false, Bool.false_or, Bool.false_eq_true, if_false, Bool.true_and, Bool.and_true, pickL, look_hit, look_miss, look_end, slMent, hpMent, S.ment, S.ment.smt, ments, V.ment, List.append_nil, List.nil_append, List.cons_append, List.all_nil, List.all_cons, Option.isSome_some, Bool.and_self, if_true, reduceIte, Nat.reduceEqDiff, not_false_eq_true, reduceCtorEq, Nat.reduceMul, Nat.reduceAdd])
      | some p =>
        rw [ho] at hs hst
        simp only [oV] at hs
        simp only [g1, hb.1, hb.2, hs, wi i (by omega), wi (oks (os.take i)).length (by omega), Int.toNat_natCast, j124, b124, q124, qq, ww, List.replicate, Nat.reduceBEq, Nat.reduceAdd, Nat.reduceMul, Nat.reduceDiv, Nat.reduceEqDiff, Nat.reduceLeDiff, Nat.reduceLT, Int.reduceEq, Int.reduceNe, Int.reduceLT, Int.reduceLE, Int.reduceAdd, Int.reduceSub, Int.reduceMul, Int.reduceNeg, Int.reduceToNat, reduceCtorEq, reduceIte, if_true, if_false]
        exact ih hlt _ (by simp only [hst, List.length_append, List.length_cons, List.length_nil, Nat.zero_add, gcK, lowB, Nat.reduceLeDiff, Nat.reduceBEq, List.contains_nil, List.contains_cons, Bool.or_false, Bool.false_or, Bool.false_eq_true, if_false, Bool.true_and, Bool.and_true, pickL, look_hit, look_miss, look_end, slMent, hpMent, S.ment, S.ment.smt, ments, V.ment, List.append_nil, List.nil_append, List.cons_append, List.all_nil, List.all_cons, Option.isSome_some, Bool.and_self, if_true, reduceIte, Nat.reduceEqDiff, not_false_eq_true, reduceCtorEq, Nat.reduceMul, Nat.reduceAdd])
    · clear ih
      obtain rfl : i = os.length := by omega
      have g1 : decide ((os.length : Int) < ((oR os).length : Int)) = false := by rw [hol]; simp
      rw [List.take_length]
      by_cases h0 : (oks os).length = 0
      · have g2 : decide (((oks os).length : Int) = 0) = true := decide_eq_true (by omega)
        rw [joinV, if_pos h0]
        simp only [g1, g2, j124, b124, q124, qq, ww, List.replicate, Nat.reduceBEq, Nat.reduceAdd, Nat.reduceMul, Nat.reduceDiv, Nat.reduceEqDiff, Nat.reduceLeDiff, Nat.reduceLT, Int.reduceEq, Int.reduceNe, Int.reduceLT, Int.reduceLE, Int.reduceAdd, Int.reduceSub, Int.reduceMul, Int.reduceNeg, Int.reduceToNat, reduceCtorEq, reduceIte, if_true, if_false]
      · have g2 : decide (((oks os).length : Int) = 0) = false := decide_eq_false (by omega)
        have hby : ((oks os).length : Int) * 16 ≤ 140737488355328 := by omega
        have hz : (0 : Int) ≤ ((oks os).length : Int) := by omega
        rw [joinV, if_neg h0]
        simp only [g1, g2, hby, hz, blkMents, Blk.mentB, j124, b124, q124, qq, ww, List.replicate, Nat.reduceBEq, Nat.reduceAdd, Nat.reduceMul, Nat.reduceDiv, Nat.reduceEqDiff, Nat.reduceLeDiff, Nat.reduceLT, Int.reduceEq, Int.reduceNe, Int.reduceLT, Int.reduceLE, Int.reduceAdd, Int.reduceSub, Int.reduceMul, Int.reduceNeg, Int.reduceToNat, reduceCtorEq, reduceIte, if_true, if_false]
        refine loopK (K := fun o => fin _ (aft _ _ _ o)) (fun i => ⟨[(6, .one (.ref 1600 0 0)), (26, .one (.row (oR os))), (27, iV (oR os).length), (28, iV i)], [(1600, .box [.sl 1472 0 (oks (os.take i)).length]), (1472, .rows 123 1 (wR (oks (os.take i))))]⟩) (fun i => some (.one (jV (wR (oks os))), [])) os.length ?hr2 os.length 0 N _ (by omega) hN ?hk2
        case hk2 => simp only [gcK, lowB, Nat.reduceLeDiff, Nat.reduceBEq, List.contains_nil, List.contains_cons, Bool.or_false, Bool.false_or, Bool.false_eq_true, if_false, Bool.true_and, Bool.and_true, pickL, look_hit, look_miss, look_end, slMent, hpMent, S.ment, S.ment.smt, ments, V.ment, List.append_nil, List.nil_append, List.cons_append, List.all_nil, List.all_cons, Option.isSome_some, Bool.and_self, if_true, reduceIte, Nat.reduceEqDiff, not_false_eq_true, reduceCtorEq, Nat.reduceMul, Nat.reduceAdd]; rfl
        case hr2 =>
          intro j q2 hj ih
          (try dsimp only)
          have htj := oks_le (os.take j)
          rw [List.length_take] at htj
          have hwl : (wR (oks (os.take j))).length = (oks (os.take j)).length := by simp [wR]
          have htk : List.take (oks (os.take j)).length (wR (oks (os.take j))) = wR (oks (os.take j)) := List.take_of_length_le (by omega)
          by_cases hlt : j < os.length
          · have g1 : decide ((j : Int) < ((oR os).length : Int)) = true := by rw [hol]; simp; omega
            have hb : 0 ≤ (j : Int) ∧ (j : Int) < ((oR os).length : Int) := by rw [hol]; omega
            have hs := hget hlt
            have hst := oks_s hlt
            cases ho : os[j] with
            | none =>
              rw [ho] at hs hst
              simp only [oV] at hs
              simp only [g1, hb.1, hb.2, hs, wi j (by omega), Int.toNat_natCast, j124, b124, q124, qq, ww, List.replicate, Nat.reduceBEq, Nat.reduceAdd, Nat.reduceMul, Nat.reduceDiv, Nat.reduceEqDiff, Nat.reduceLeDiff, Nat.reduceLT, Int.reduceEq, Int.reduceNe, Int.reduceLT, Int.reduceLE, Int.reduceAdd, Int.reduceSub, Int.reduceMul, Int.reduceNeg, Int.reduceToNat, reduceCtorEq, reduceIte, if_true, if_false]
              exact ih hlt _ (by simp only [hst, List.append_nil, gcK, lowB, Nat.reduceLeDiff, Nat.reduceBEq, List.contains_nil, List.contains_cons, Bool.or_false, Bool.false_or, Bool.false_eq_true, if_false, Bool.true_and, Bool.and_true, pickL, look_hit, look_miss, look_end, slMent, hpMent, S.ment, S.ment.smt, ments, V.ment, List.append_nil, List.nil_append, List.cons_append, List.all_nil, List.all_cons, Option.isSome_some, Bool.and_self, if_true, reduceIte, Nat.reduceEqDiff, not_false_eq_true, reduceCtorEq, Nat.reduceMul, Nat.reduceAdd])
            | some p =>
              rw [ho] at hs hst
              simp only [oV] at hs
              have hby2 : ((oks (os.take j)).length + 1) * 16 ≤ 140737488355328 := by omega
              have hwa : wR (oks (os.take j) ++ [p]) = wR (oks (os.take j)) ++ [[wV p.1 p.2]] := by simp [wR]
              simp only [g1, hb.1, hb.2, hs, hwl, htk, hby2, wi j (by omega), Int.toNat_natCast, Nat.le_refl, BEq.rfl, j124, b124, q124, qq, ww, List.replicate, Nat.reduceBEq, Nat.reduceAdd, Nat.reduceMul, Nat.reduceDiv, Nat.reduceEqDiff, Nat.reduceLeDiff, Nat.reduceLT, Int.reduceEq, Int.reduceNe, Int.reduceLT, Int.reduceLE, Int.reduceAdd, Int.reduceSub, Int.reduceMul, Int.reduceNeg, Int.reduceToNat, reduceCtorEq, reduceIte, if_true, if_false]
              exact ih hlt _ (by simp only [hst, hwa, List.length_append, List.length_cons, List.length_nil, Nat.zero_add, gcK, lowB, Nat.reduceLeDiff, Nat.reduceBEq, List.contains_nil, List.contains_cons, Bool.or_false, Bool.false_or, Bool.false_eq_true, if_false, Bool.true_and, Bool.and_true, pickL, look_hit, look_miss, look_end, slMent, hpMent, S.ment, S.ment.smt, ments, V.ment, List.append_nil, List.nil_append, List.cons_append, List.all_nil, List.all_cons, Option.isSome_some, Bool.and_self, if_true, reduceIte, Nat.reduceEqDiff, not_false_eq_true, reduceCtorEq, Nat.reduceMul, Nat.reduceAdd])
          · obtain rfl : j = os.length := by omega
            have g1 : decide ((os.length : Int) < ((oR os).length : Int)) = false := by rw [hol]; simp
            rw [List.take_length] at hwl htk ⊢
            simp only [g1, blkMents, Blk.mentB, j124, b124, q124, qq, ww, List.replicate, Nat.reduceBEq, Nat.reduceAdd, Nat.reduceMul, Nat.reduceDiv, Nat.reduceEqDiff, Nat.reduceLeDiff, Nat.reduceLT, Int.reduceEq, Int.reduceNe, Int.reduceLT, Int.reduceLE, Int.reduceAdd, Int.reduceSub, Int.reduceMul, Int.reduceNeg, Int.reduceToNat, reduceCtorEq, reduceIte, if_true, if_false]
            simp only [hwl, htk, Nat.le_refl, j124, b124, q124, qq, ww, List.replicate, Nat.reduceBEq, Nat.reduceAdd, Nat.reduceMul, Nat.reduceDiv, Nat.reduceEqDiff, Nat.reduceLeDiff, Nat.reduceLT, Int.reduceEq, Int.reduceNe, Int.reduceLT, Int.reduceLE, Int.reduceAdd, Int.reduceSub, Int.reduceMul, Int.reduceNeg, Int.reduceToNat, reduceCtorEq, reduceIte, if_true, if_false]
end Go.Proofs.YtkfcbpbnoeaheaaGreatDoor.EC
namespace Go.Proofs.YtkfcbpbnoeaheaaGreatDoor.EC
open Go Go.Proofs.YtkfcbpbnoeaheaaGreatDoorR IG EA
set_option maxRecDepth 100000
set_option maxHeartbeats 4000000
structure Cf where
  (n t k d p w q : Int)
structure Sp where
  (k n t v m : Int)
abbrev eC (c : Cf) : List V := [.int .i64 c.n, .int .i64 c.t, .int .i64 c.k, .int .i64 c.d, .int .i64 c.p, .int .i64 c.w, .int .i64 c.q]
theorem oV_live (o : Ow) : V.live (oV o) = true := by rcases o with _ | ⟨s, e⟩ <;> rfl
theorem oV_ment (o : Ow) : V.ment (oV o) = none := by rcases o with _ | ⟨s, e⟩ <;> rfl
theorem jo_ment (os : List Ow) : V.ment (joinV os) = none := by
  unfold joinV
  split <;> rfl
theorem oV_pur (o : Ow) (h : Nat → Option Blk) : V.pur h (oV o) = some (oV o) := by rcases o with _ | ⟨s, e⟩ <;> rfl
theorem oV_pur1 (o : Ow) (h : Nat → Option Blk) : V.pur1 h (oV o) = some (oV o) := by rcases o with _ | ⟨s, e⟩ <;> rfl
theorem jo_pur (os : List Ow) (h : Nat → Option Blk) : V.pur h (joinV os) = some (joinV os) := by
  unfold joinV
  split <;> rfl
theorem jo_hand (os : List Ow) (h : Nat → Option Blk) (m k : Nat) (u : List Nat) : handS h m u k (.one (joinV os)) = some (.one (joinV os), u, k + 1, []) := by
  unfold joinV
  split
  · rfl
  · cases u <;> rfl
theorem oV_hand (o : Ow) (h : Nat → Option Blk) (m k : Nat) (u : List Nat) : handS h m u k (.one (oV o)) = some (.one (oV o), u, k + 1, []) := by rcases o with _ | ⟨s, e⟩ <;> rfl
theorem jo_live (os : List Ow) : V.live (joinV os) = true := by
  unfold joinV
  split <;> rfl
theorem whys_w : ∀ ws : List (ByteArray × Int), whys (wR ws) = some (ws.map (·.2))
  | [] => rfl
  | p :: r => by
    have := whys_w r
    simp only [wR] at this
    simp [wR, whys, why1, this]
def errW : List (ByteArray × Int) → Int
  | [] => 0
  | p :: r => if ((p :: r).map (·.2)).any (fun x => decide (x = 9)) then 9 else p.2
theorem errno_j (os : List Ow) (h : os.length < 1000) : XE.errnoM [.one (joinV os)] = some (iV (errW (oks os)), []) := by
  have hle := oks_le os
  unfold joinV
  by_cases h0 : (oks os).length = 0
  · rw [if_pos h0, List.eq_nil_of_length_eq_zero h0]; rfl
  · rw [if_neg h0]
    cases hq : oks os with
    | nil => rw [hq] at h0; exact absurd rfl h0
    | cons p r =>
      rw [hq] at hle
      simp only [List.length_cons] at hle
      have hw := whys_w (p :: r)
      rw [List.map_cons] at hw
      simp only [XE.errnoM, hw, List.length_map]
      rw [if_pos (by omega)]
      rfl
abbrev fl (s : ByteArray) (n lo hi e : Int) : Ow := if lo ≤ n ∧ n ≤ hi then none else some (s, e)
abbrev cfl (c : Cf) : List Ow := [fl ⟨#[110, 111, 100, 101, 115]⟩ c.n 1 8 13, fl ⟨#[116, 111, 112, 105, 99, 115]⟩ c.t 1 4 13, fl ⟨#[107, 105, 100, 115]⟩ c.k 1 4 13, fl ⟨#[100, 101, 112, 116, 104]⟩ c.d 1 8 13, fl ⟨#[107, 101, 101, 112]⟩ c.p 1 16 13, fl ⟨#[119, 105, 110, 100, 111, 119]⟩ c.w 1 16 13, fl ⟨#[113, 117, 101, 117, 101]⟩ c.q 2 32 13]
theorem e97 (N d : Nat) (c : Cf) (hN : 7 < N) : TT N (d + 2) 97 [.agg (eC c)] = some (.one (joinV (cfl c)), []) := by
  have h30 := fun d s n lo hi e => e125 N d s n lo hi e
  have h29 : ∀ d, TT N (d + 1) 124 [.one (.row [[oV (fl ⟨#[110, 111, 100, 101, 115]⟩ c.n 1 8 13)], [oV (fl ⟨#[116, 111, 112, 105, 99, 115]⟩ c.t 1 4 13)], [oV (fl ⟨#[107, 105, 100, 115]⟩ c.k 1 4 13)], [oV (fl ⟨#[100, 101, 112, 116, 104]⟩ c.d 1 8 13)], [oV (fl ⟨#[107, 101, 101, 112]⟩ c.p 1 16 13)], [oV (fl ⟨#[119, 105, 110, 100, 111, 119]⟩ c.w 1 16 13)], [oV (fl ⟨#[113, 117, 101, 117, 101]⟩ c.q 2 32 13)]])] = some (.one (joinV (cfl c)), []) := fun d => e124 N d (cfl c) (by simpa using hN) (by simp)
  rw [t97, F_ev rfl]
  simp only [h30, h29, ↓oV_pur, ↓oV_pur1, ↓jo_pur, ↓oV_live, ↓oV_ment, ↓jo_hand, ↓oV_hand, ↓jo_live, ↓jo_ment, j97, b97, q97, qq, ww, List.replicate, Nat.reduceBEq, Nat.reduceAdd, Nat.reduceMul, Nat.reduceDiv, Nat.reduceEqDiff, Nat.reduceLeDiff, Nat.reduceLT, Int.reduceEq, Int.reduceNe, Int.reduceLT, Int.reduceLE, Int.reduceAdd, Int.reduceSub, Int.reduceMul, Int.reduceNeg, Int.reduceToNat, reduceCtorEq, reduceIte, if_true, if_false]
def okC (c : Cf) : Bool := decide ((1 ≤ c.n ∧ c.n ≤ 8) ∧ (1 ≤ c.t ∧ c.t ≤ 4) ∧ (1 ≤ c.k ∧ c.k ≤ 4) ∧ (1 ≤ c.d ∧ c.d ≤ 8) ∧ (1 ≤ c.p ∧ c.p ≤ 16) ∧ (1 ≤ c.w ∧ c.w ≤ 16) ∧ (2 ≤ c.q ∧ c.q ≤ 32))
theorem errW_13 : ∀ ws : List (ByteArray × Int), (∀ p ∈ ws, p.2 = 13) → errW ws = if ws = [] then 0 else 13
  | [], _ => rfl
  | p :: r, h => by
    have h1 : ((p :: r).map (·.2)).any (fun x => decide (x = 9)) = false := by
      rw [List.any_eq_false]
      intro x hx
      obtain ⟨q, hq, rfl⟩ := List.mem_map.1 hx
      simp [h q hq]
    rw [errW, h1, if_neg (by decide), if_neg (by simp)]
    exact h p (by simp)
theorem errW_c (c : Cf) : errW (oks (cfl c)) = if okC c then 0 else 13 := by
  rw [errW_13]
  · congr 1
    apply propext
    simp only [okC, oks, decide_eq_true_eq, List.filterMap_eq_nil_iff]
    constructor
    · intro h
      refine ⟨?_, ?_, ?_, ?_, ?_, ?_, ?_⟩
      all_goals (apply Decidable.byContradiction; intro hc)
      · have := h (fl ⟨#[110, 111, 100, 101, 115]⟩ c.n 1 8 13) (by simp); rw [fl, if_neg hc] at this; cases this
      · have := h (fl ⟨#[116, 111, 112, 105, 99, 115]⟩ c.t 1 4 13) (by simp); rw [fl, if_neg hc] at this; cases this
      · have := h (fl ⟨#[107, 105, 100, 115]⟩ c.k 1 4 13) (by simp); rw [fl, if_neg hc] at this; cases this
      · have := h (fl ⟨#[100, 101, 112, 116, 104]⟩ c.d 1 8 13) (by simp); rw [fl, if_neg hc] at this; cases this
      · have := h (fl ⟨#[107, 101, 101, 112]⟩ c.p 1 16 13) (by simp); rw [fl, if_neg hc] at this; cases this
      · have := h (fl ⟨#[119, 105, 110, 100, 111, 119]⟩ c.w 1 16 13) (by simp); rw [fl, if_neg hc] at this; cases this
      · have := h (fl ⟨#[113, 117, 101, 117, 101]⟩ c.q 2 32 13) (by simp); rw [fl, if_neg hc] at this; cases this
    · rintro ⟨h1, h2, h3, h4, h5, h6, h7⟩ o ho
      simp only [fl, if_pos h1, if_pos h2, if_pos h3, if_pos h4, if_pos h5, if_pos h6, if_pos h7, List.mem_cons, List.not_mem_nil, or_false, or_self] at ho
      subst ho
      rfl
  · intro p hp
    simp only [oks, List.mem_filterMap, id] at hp
    obtain ⟨o, ho, rfl⟩ := hp
    simp only [List.mem_cons, List.not_mem_nil, or_false, fl] at ho
    rcases ho with h | h | h | h | h | h | h <;> split at h <;> first | (cases h; rfl) | cases h
theorem e62 (N d : Nat) (c : Cf) (hN : 7 < N) : TT N (d + 3) 62 [.agg (eC c)] = some (iV (if okC c then 0 else 13), []) := by
  have h24 := fun d => e97 N d c hN
  have h23 : ∀ d, TT N (d + 1) 96 [.one (joinV (cfl c))] = some (iV (if okC c then 0 else 13), []) := fun d => by
    rw [t96, errno_j _ (by simp), errW_c]
  rw [t62, F_ev rfl]
  simp only [h24, h23, ↓jo_pur, ↓jo_hand, ↓oV_hand, ↓jo_live, ↓jo_ment, j62, b62, q62, qq, ww, List.replicate, Nat.reduceBEq, Nat.reduceAdd, Nat.reduceMul, Nat.reduceDiv, Nat.reduceEqDiff, Nat.reduceLeDiff, Nat.reduceLT, Int.reduceEq, Int.reduceNe, Int.reduceLT, Int.reduceLE, Int.reduceAdd, Int.reduceSub, Int.reduceMul, Int.reduceNeg, Int.reduceToNat, reduceCtorEq, reduceIte, if_true, if_false]
end Go.Proofs.YtkfcbpbnoeaheaaGreatDoor.EC
namespace Go.Proofs.YtkfcbpbnoeaheaaGreatDoor.QA
open Go Go.Proofs.YtkfcbpbnoeaheaaGreatDoorR IG
set_option maxRecDepth 100000
structure Ev where
  (k e s l v c : Int)
  deriving DecidableEq
abbrev eE (x : Ev) : List V := [.int .i64 x.k, .int .i64 x.e, .int .i64 x.s, .int .i64 x.l, .int .i64 x.v, .int .i64 x.c]
abbrev aE (x : Ev) : S := .agg (eE x)
abbrev rE (l : List Ev) : V := .row (l.map eE)
def inB (n lo hi : Int) : Bool := decide (lo ≤ n) && decide (n ≤ hi)
def epOK (n : Int) : Bool := inB n 1 1073741824 && decide (n.tmod 16 < 8)
abbrev pl (x : Ev) : Bool := epOK x.e && inB x.s 1 1073741824
def evOK (x : Ev) : Bool :=
  if x.k = 1 then pl x && inB x.v 0 2147483647 && decide (x.l = 0) && decide (x.c = 0)
  else if x.k = 2 then pl x && inB x.l x.s 1073741824 && decide (x.v = 0) && decide (x.c = 0)
  else if x.k = 3 then inB x.c 1 40 && inB x.v 0 7 && decide (x.e = 0) && decide (x.s = 0) && decide (x.l = 0)
  else if x.k = 4 then inB x.c 1 40 && decide (x.v = 0) && decide (x.e = 0) && decide (x.s = 0) && decide (x.l = 0)
  else if x.k = 5 then decide (x.c = 0) && decide (x.v = 0) && decide (x.e = 0) && decide (x.s = 0) && decide (x.l = 0)
  else false
theorem e84 (N d) (n lo hi) : TT N (d + 1) 84 [iV n, iV lo, iV hi] = some (bV (inB n lo hi), []) := by
  rw [t84, F_ev rfl]
  simp only [j84, b84, q84, qq, ww, List.replicate, Nat.reduceBEq, Nat.reduceAdd, Nat.reduceMul, Nat.reduceDiv, Nat.reduceEqDiff, Nat.reduceLeDiff, Nat.reduceLT, Int.reduceEq, Int.reduceNe, Int.reduceLT, Int.reduceLE, Int.reduceAdd, Int.reduceSub, Int.reduceMul, Int.reduceNeg, Int.reduceToNat, reduceCtorEq, reduceIte, if_true, if_false]
  repeat' (refine fin_cases (fun h1 => ?_) (fun h1 => ?_) <;> simp only [h1, j84, b84, q84, qq, ww, List.replicate, Nat.reduceBEq, Nat.reduceAdd, Nat.reduceMul, Nat.reduceDiv, Nat.reduceEqDiff, Nat.reduceLeDiff, Nat.reduceLT, Int.reduceEq, Int.reduceNe, Int.reduceLT, Int.reduceLE, Int.reduceAdd, Int.reduceSub, Int.reduceMul, Int.reduceNeg, Int.reduceToNat, reduceCtorEq, reduceIte, if_true, if_false])
  all_goals grind [inB]
theorem e56 (N d) (n lo hi) : TT N (d + 1) 56 [iV n, iV lo, iV hi] = some (bV (inB n lo hi), []) := by
  rw [t56, F_ev rfl]
  simp only [j56, b56, q56, qq, ww, List.replicate, Nat.reduceBEq, Nat.reduceAdd, Nat.reduceMul, Nat.reduceDiv, Nat.reduceEqDiff, Nat.reduceLeDiff, Nat.reduceLT, Int.reduceEq, Int.reduceNe, Int.reduceLT, Int.reduceLE, Int.reduceAdd, Int.reduceSub, Int.reduceMul, Int.reduceNeg, Int.reduceToNat, reduceCtorEq, reduceIte, if_true, if_false]
  repeat' (refine fin_cases (fun h1 => ?_) (fun h1 => ?_) <;> simp only [h1, j56, b56, q56, qq, ww, List.replicate, Nat.reduceBEq, Nat.reduceAdd, Nat.reduceMul, Nat.reduceDiv, Nat.reduceEqDiff, Nat.reduceLeDiff, Nat.reduceLT, Int.reduceEq, Int.reduceNe, Int.reduceLT, Int.reduceLE, Int.reduceAdd, Int.reduceSub, Int.reduceMul, Int.reduceNeg, Int.reduceToNat, reduceCtorEq, reduceIte, if_true, if_false])
  all_goals grind [inB]
theorem e46 (N d) (n) : TT N (d + 2) 46 [iV n] = some (bV (inB n 1 1073741824), []) := by
  rw [t46, F_ev rfl]
  simp only [e84, j46, b46, q46, qq, ww, List.replicate, Nat.reduceBEq, Nat.reduceAdd, Nat.reduceMul, Nat.reduceDiv, Nat.reduceEqDiff, Nat.reduceLeDiff, Nat.reduceLT, Int.reduceEq, Int.reduceNe, Int.reduceLT, Int.reduceLE, Int.reduceAdd, Int.reduceSub, Int.reduceMul, Int.reduceNeg, Int.reduceToNat, reduceCtorEq, reduceIte, if_true, if_false]
  repeat' (refine fin_cases (fun h1 => ?_) (fun h1 => ?_) <;> simp only [h1, e84, j46, b46, q46, qq, ww, List.replicate, Nat.reduceBEq, Nat.reduceAdd, Nat.reduceMul, Nat.reduceDiv, Nat.reduceEqDiff, Nat.reduceLeDiff, Nat.reduceLT, Int.reduceEq, Int.reduceNe, Int.reduceLT, Int.reduceLE, Int.reduceAdd, Int.reduceSub, Int.reduceMul, Int.reduceNeg, Int.reduceToNat, reduceCtorEq, reduceIte, if_true, if_false])
theorem e51 (N d) (n) : TT N (d + 2) 51 [iV n] = some (bV (inB n 0 2147483647), []) := by
  rw [t51, F_ev rfl]
  simp only [e84, j51, b51, q51, qq, ww, List.replicate, Nat.reduceBEq, Nat.reduceAdd, Nat.reduceMul, Nat.reduceDiv, Nat.reduceEqDiff, Nat.reduceLeDiff, Nat.reduceLT, Int.reduceEq, Int.reduceNe, Int.reduceLT, Int.reduceLE, Int.reduceAdd, Int.reduceSub, Int.reduceMul, Int.reduceNeg, Int.reduceToNat, reduceCtorEq, reduceIte, if_true, if_false]
  repeat' (refine fin_cases (fun h1 => ?_) (fun h1 => ?_) <;> simp only [h1, e84, j51, b51, q51, qq, ww, List.replicate, Nat.reduceBEq, Nat.reduceAdd, Nat.reduceMul, Nat.reduceDiv, Nat.reduceEqDiff, Nat.reduceLeDiff, Nat.reduceLT, Int.reduceEq, Int.reduceNe, Int.reduceLT, Int.reduceLE, Int.reduceAdd, Int.reduceSub, Int.reduceMul, Int.reduceNeg, Int.reduceToNat, reduceCtorEq, reduceIte, if_true, if_false])
theorem e24 (N d) (n) : TT N (d + 2) 24 [iV n] = some (bV (inB n 0 2147483647), []) := by
  rw [t24, F_ev rfl]
  simp only [e56, j24, b24, q24, qq, ww, List.replicate, Nat.reduceBEq, Nat.reduceAdd, Nat.reduceMul, Nat.reduceDiv, Nat.reduceEqDiff, Nat.reduceLeDiff, Nat.reduceLT, Int.reduceEq, Int.reduceNe, Int.reduceLT, Int.reduceLE, Int.reduceAdd, Int.reduceSub, Int.reduceMul, Int.reduceNeg, Int.reduceToNat, reduceCtorEq, reduceIte, if_true, if_false]
  repeat' (refine fin_cases (fun h1 => ?_) (fun h1 => ?_) <;> simp only [h1, e56, j24, b24, q24, qq, ww, List.replicate, Nat.reduceBEq, Nat.reduceAdd, Nat.reduceMul, Nat.reduceDiv, Nat.reduceEqDiff, Nat.reduceLeDiff, Nat.reduceLT, Int.reduceEq, Int.reduceNe, Int.reduceLT, Int.reduceLE, Int.reduceAdd, Int.reduceSub, Int.reduceMul, Int.reduceNeg, Int.reduceToNat, reduceCtorEq, reduceIte, if_true, if_false])
theorem e115 (N d) (n lo) : TT N (d + 1) 115 [iV n, iV lo] = some (bV (inB n 0 (lo - 1)), []) := by
  rw [t115, F_ev rfl]
  simp only [j115, b115, q115, qq, ww, List.replicate, Nat.reduceBEq, Nat.reduceAdd, Nat.reduceMul, Nat.reduceDiv, Nat.reduceEqDiff, Nat.reduceLeDiff, Nat.reduceLT, Int.reduceEq, Int.reduceNe, Int.reduceLT, Int.reduceLE, Int.reduceAdd, Int.reduceSub, Int.reduceMul, Int.reduceNeg, Int.reduceToNat, reduceCtorEq, reduceIte, if_true, if_false]
  repeat' (refine fin_cases (fun h1 => ?_) (fun h1 => ?_) <;> simp only [h1, j115, b115, q115, qq, ww, List.replicate, Nat.reduceBEq, Nat.reduceAdd, Nat.reduceMul, Nat.reduceDiv, Nat.reduceEqDiff, Nat.reduceLeDiff, Nat.reduceLT, Int.reduceEq, Int.reduceNe, Int.reduceLT, Int.reduceLE, Int.reduceAdd, Int.reduceSub, Int.reduceMul, Int.reduceNeg, Int.reduceToNat, reduceCtorEq, reduceIte, if_true, if_false])
  all_goals grind [inB]
theorem e83 (N d) (n) : TT N (d + 2) 83 [iV n] = some (bV (inB n 0 7), []) := by
  rw [t83, F_ev rfl]
  simp only [e115, j83, b83, q83, qq, ww, List.replicate, Nat.reduceBEq, Nat.reduceAdd, Nat.reduceMul, Nat.reduceDiv, Nat.reduceEqDiff, Nat.reduceLeDiff, Nat.reduceLT, Int.reduceEq, Int.reduceNe, Int.reduceLT, Int.reduceLE, Int.reduceAdd, Int.reduceSub, Int.reduceMul, Int.reduceNeg, Int.reduceToNat, reduceCtorEq, reduceIte, if_true, if_false]
  repeat' (refine fin_cases (fun h1 => ?_) (fun h1 => ?_) <;> simp only [h1, e115, j83, b83, q83, qq, ww, List.replicate, Nat.reduceBEq, Nat.reduceAdd, Nat.reduceMul, Nat.reduceDiv, Nat.reduceEqDiff, Nat.reduceLeDiff, Nat.reduceLT, Int.reduceEq, Int.reduceNe, Int.reduceLT, Int.reduceLE, Int.reduceAdd, Int.reduceSub, Int.reduceMul, Int.reduceNeg, Int.reduceToNat, reduceCtorEq, reduceIte, if_true, if_false])
theorem e45 (N d) (n) : TT N (d + 3) 45 [iV n] = some (iV (if epOK n then 0 else 1), []) := by
  rw [t45, F_ev rfl]
  simp only [e83, j45, b45, q45, qq, ww, List.replicate, Nat.reduceBEq, Nat.reduceAdd, Nat.reduceMul, Nat.reduceDiv, Nat.reduceEqDiff, Nat.reduceLeDiff, Nat.reduceLT, Int.reduceEq, Int.reduceNe, Int.reduceLT, Int.reduceLE, Int.reduceAdd, Int.reduceSub, Int.reduceMul, Int.reduceNeg, Int.reduceToNat, reduceCtorEq, reduceIte, if_true, if_false]
  repeat' (refine fin_cases (fun h1 => ?_) (fun h1 => ?_) <;> simp only [h1, e83, j45, b45, q45, qq, ww, List.replicate, Nat.reduceBEq, Nat.reduceAdd, Nat.reduceMul, Nat.reduceDiv, Nat.reduceEqDiff, Nat.reduceLeDiff, Nat.reduceLT, Int.reduceEq, Int.reduceNe, Int.reduceLT, Int.reduceLE, Int.reduceAdd, Int.reduceSub, Int.reduceMul, Int.reduceNeg, Int.reduceToNat, reduceCtorEq, reduceIte, if_true, if_false])
  all_goals (first | (simp_all [epOK, inB]; done) | (simp_all [epOK, inB]; omega) | grind [inB, epOK])
theorem e145 (N d) (n) : TT N (d + 1) 145 [iV n] = some (bV (inB n 1 40), []) := by
  rw [t145, F_ev rfl]
  simp only [j145, b145, q145, qq, ww, List.replicate, Nat.reduceBEq, Nat.reduceAdd, Nat.reduceMul, Nat.reduceDiv, Nat.reduceEqDiff, Nat.reduceLeDiff, Nat.reduceLT, Int.reduceEq, Int.reduceNe, Int.reduceLT, Int.reduceLE, Int.reduceAdd, Int.reduceSub, Int.reduceMul, Int.reduceNeg, Int.reduceToNat, reduceCtorEq, reduceIte, if_true, if_false]
  repeat' (refine fin_cases (fun h1 => ?_) (fun h1 => ?_) <;> simp only [h1, j145, b145, q145, qq, ww, List.replicate, Nat.reduceBEq, Nat.reduceAdd, Nat.reduceMul, Nat.reduceDiv, Nat.reduceEqDiff, Nat.reduceLeDiff, Nat.reduceLT, Int.reduceEq, Int.reduceNe, Int.reduceLT, Int.reduceLE, Int.reduceAdd, Int.reduceSub, Int.reduceMul, Int.reduceNeg, Int.reduceToNat, reduceCtorEq, reduceIte, if_true, if_false])
  all_goals grind [inB]
theorem e144 (N d) (x) : TT N (d + 4) 144 [aE x] = some (bV (pl x), []) := by
  rw [t144, F_ev rfl]
  simp only [e45, e46, j144, b144, q144, qq, ww, List.replicate, Nat.reduceBEq, Nat.reduceAdd, Nat.reduceMul, Nat.reduceDiv, Nat.reduceEqDiff, Nat.reduceLeDiff, Nat.reduceLT, Int.reduceEq, Int.reduceNe, Int.reduceLT, Int.reduceLE, Int.reduceAdd, Int.reduceSub, Int.reduceMul, Int.reduceNeg, Int.reduceToNat, reduceCtorEq, reduceIte, if_true, if_false]
  repeat' (refine fin_cases (fun h1 => ?_) (fun h1 => ?_) <;> simp only [h1, e45, e46, j144, b144, q144, qq, ww, List.replicate, Nat.reduceBEq, Nat.reduceAdd, Nat.reduceMul, Nat.reduceDiv, Nat.reduceEqDiff, Nat.reduceLeDiff, Nat.reduceLT, Int.reduceEq, Int.reduceNe, Int.reduceLT, Int.reduceLE, Int.reduceAdd, Int.reduceSub, Int.reduceMul, Int.reduceNeg, Int.reduceToNat, reduceCtorEq, reduceIte, if_true, if_false])
  all_goals (first | (simp_all [epOK, inB]; done) | (simp_all [epOK, inB]; omega) | grind [inB, epOK])
end Go.Proofs.YtkfcbpbnoeaheaaGreatDoor.QA
namespace Go.Proofs.YtkfcbpbnoeaheaaGreatDoor.QA
open Go Go.Proofs.YtkfcbpbnoeaheaaGreatDoorR IG
set_option maxRecDepth 100000
def bareE (x : Ev) : Ev × Bool :=
  if x.k = 1 then (⟨1, 0, 0, x.l, 0, x.c⟩, pl x && inB x.v 0 2147483647)
  else if x.k = 2 then (⟨2, 0, 0, 0, x.v, x.c⟩, pl x && decide (x.s ≤ x.l) && decide (x.l ≤ 1073741824))
  else if x.k = 3 then (⟨3, x.e, x.s, x.l, 0, 0⟩, inB x.c 1 40 && inB x.v 0 7)
  else if x.k = 4 then (⟨4, x.e, x.s, x.l, x.v, 0⟩, inB x.c 1 40)
  else (x, decide (x.k = 5))
theorem e128 (N d) (x) : TT N (d + 5) 128 [aE x] = some (.tup [aE (bareE x).1, bV (bareE x).2], []) := by
  rw [t128, F_ev rfl]
  simp only [e144, e145, e83, e51, j128, b128, q128, qq, ww, List.replicate, Nat.reduceBEq, Nat.reduceAdd, Nat.reduceMul, Nat.reduceDiv, Nat.reduceEqDiff, Nat.reduceLeDiff, Nat.reduceLT, Int.reduceEq, Int.reduceNe, Int.reduceLT, Int.reduceLE, Int.reduceAdd, Int.reduceSub, Int.reduceMul, Int.reduceNeg, Int.reduceToNat, reduceCtorEq, reduceIte, if_true, if_false]
  repeat' (refine fin_cases (fun h1 => ?_) (fun h1 => ?_) <;> simp only [h1, e144, e145, e83, e51, j128, b128, q128, qq, ww, List.replicate, Nat.reduceBEq, Nat.reduceAdd, Nat.reduceMul, Nat.reduceDiv, Nat.reduceEqDiff, Nat.reduceLeDiff, Nat.reduceLT, Int.reduceEq, Int.reduceNe, Int.reduceLT, Int.reduceLE, Int.reduceAdd, Int.reduceSub, Int.reduceMul, Int.reduceNeg, Int.reduceToNat, reduceCtorEq, reduceIte, if_true, if_false])
  all_goals (first | (simp_all [bareE]; done) | (simp_all [bareE]; omega) | grind [bareE])
theorem e102 (N d) (x) : TT N (d + 6) 102 [aE x] = some (iV (if evOK x then 0 else 1), []) := by
  rw [t102, F_ev rfl]
  simp only [e128, j102, b102, q102, qq, ww, List.replicate, Nat.reduceBEq, Nat.reduceAdd, Nat.reduceMul, Nat.reduceDiv, Nat.reduceEqDiff, Nat.reduceLeDiff, Nat.reduceLT, Int.reduceEq, Int.reduceNe, Int.reduceLT, Int.reduceLE, Int.reduceAdd, Int.reduceSub, Int.reduceMul, Int.reduceNeg, Int.reduceToNat, reduceCtorEq, reduceIte, if_true, if_false]
  repeat' (refine fin_cases (fun h1 => ?_) (fun h1 => ?_) <;> simp only [h1, e128, j102, b102, q102, qq, ww, List.replicate, Nat.reduceBEq, Nat.reduceAdd, Nat.reduceMul, Nat.reduceDiv, Nat.reduceEqDiff, Nat.reduceLeDiff, Nat.reduceLT, Int.reduceEq, Int.reduceNe, Int.reduceLT, Int.reduceLE, Int.reduceAdd, Int.reduceSub, Int.reduceMul, Int.reduceNeg, Int.reduceToNat, reduceCtorEq, reduceIte, if_true, if_false])
  all_goals grind [bareE, evOK, inB]

def gapE (x : Ev) : Option Ev := if x.k = 1 then some ⟨2, x.e, x.s, x.s, 0, 0⟩ else if x.k = 2 then some x else none
theorem e137 (N d) (x) : TT N (d + 1) 137 [aE x] = some (.tup [aE ((gapE x).getD ⟨0, 0, 0, 0, 0, 0⟩), bV (gapE x).isSome], []) := by
  rw [t137, F_ev rfl]
  simp only [j137, b137, q137, qq, ww, List.replicate, Nat.reduceBEq, Nat.reduceAdd, Nat.reduceMul, Nat.reduceDiv, Nat.reduceEqDiff, Nat.reduceLeDiff, Nat.reduceLT, Int.reduceEq, Int.reduceNe, Int.reduceLT, Int.reduceLE, Int.reduceAdd, Int.reduceSub, Int.reduceMul, Int.reduceNeg, Int.reduceToNat, reduceCtorEq, reduceIte, if_true, if_false]
  repeat' (refine fin_cases (fun h1 => ?_) (fun h1 => ?_) <;> simp only [h1, j137, b137, q137, qq, ww, List.replicate, Nat.reduceBEq, Nat.reduceAdd, Nat.reduceMul, Nat.reduceDiv, Nat.reduceEqDiff, Nat.reduceLeDiff, Nat.reduceLT, Int.reduceEq, Int.reduceNe, Int.reduceLT, Int.reduceLE, Int.reduceAdd, Int.reduceSub, Int.reduceMul, Int.reduceNeg, Int.reduceToNat, reduceCtorEq, reduceIte, if_true, if_false])
  all_goals grind [gapE]
theorem n01 {b : Bool} : decide ((if b = true then (0 : Int) else 1) = 0) = b := by cases b <;> rfl
theorem e101 (N d) (x) : TT N (d + 7) 101 [aE x] = some (bV (!evOK x), []) := by
  rw [t101, F_ev rfl]
  simp only [e102, n01, j101, b101, q101, qq, ww, List.replicate, Nat.reduceBEq, Nat.reduceAdd, Nat.reduceMul, Nat.reduceDiv, Nat.reduceEqDiff, Nat.reduceLeDiff, Nat.reduceLT, Int.reduceEq, Int.reduceNe, Int.reduceLT, Int.reduceLE, Int.reduceAdd, Int.reduceSub, Int.reduceMul, Int.reduceNeg, Int.reduceToNat, reduceCtorEq, reduceIte, if_true, if_false]
  repeat' (refine fin_cases (fun h1 => ?_) (fun h1 => ?_) <;> simp only [h1, e102, n01, j101, b101, q101, qq, ww, List.replicate, Nat.reduceBEq, Nat.reduceAdd, Nat.reduceMul, Nat.reduceDiv, Nat.reduceEqDiff, Nat.reduceLeDiff, Nat.reduceLT, Int.reduceEq, Int.reduceNe, Int.reduceLT, Int.reduceLE, Int.reduceAdd, Int.reduceSub, Int.reduceMul, Int.reduceNeg, Int.reduceToNat, reduceCtorEq, reduceIte, if_true, if_false])
def ix {α : Type} (p : α → Bool) : List α → Int → Int
  | [], _ => -1
  | x :: r, i => if p x then i else ix p r (i + 1)
theorem wi (i : Nat) (h : i < 4611686018427387904) : IntKind.i64.wrap ((i : Int) + 1) = ((i + 1 : Nat) : Int) := by rw [IntWalk.i64_in _ (by omega)]; omega
theorem e127 (N d f : Nat) (p : Ev → Bool) (hf : ∀ x, TT N d f [aE x] = some (bV (p x), [])) (l : List Ev) (hN : l.length < N) (hl : l.length < 1000000) : TT N (d + 1) 127 [.one (rE l), .one (.fn f [])] = some (iV (ix p l 0), []) := by
  rw [t127, F_ev rfl]
  simp only [j127, b127, q127, qq, ww, List.replicate, Nat.reduceBEq, Nat.reduceAdd, Nat.reduceMul, Nat.reduceDiv, Nat.reduceEqDiff, Nat.reduceLeDiff, Nat.reduceLT, Int.reduceEq, Int.reduceNe, Int.reduceLT, Int.reduceLE, Int.reduceAdd, Int.reduceSub, Int.reduceMul, Int.reduceNeg, Int.reduceToNat, reduceCtorEq, reduceIte, if_true, if_false, List.length_map]
  refine (loopK (K := fun o => fin _ (aft _ _ _ o)) (fun i => ⟨[(0, .one (rE l)), (1, .one (.fn f [])), (7, iV l.length), (8, iV i)], []⟩) (fun i => some (iV (ix p (l.drop i) i), [])) l.length ?hr l.length 0 N _ (by omega) hN ?hk).trans ?_
  case hk => simp only [gcK, lowB, Nat.reduceLeDiff, Nat.reduceBEq, List.contains_nil, List.contains_cons, Bool.or_false, Bool.false_or, Bool.false_eq_true, if_false, Bool.true_and, Bool.and_true, pickL, look_hit, look_miss, look_end, slMent, hpMent, S.ment, S.ment.smt, ments, V.ment, List.append_nil, List.nil_append, List.cons_append, List.all_nil, List.all_cons, Option.isSome_some, Bool.and_self, if_true, reduceIte, Nat.reduceEqDiff, not_false_eq_true, reduceCtorEq, Nat.reduceMul, Nat.reduceAdd]; rfl
  case hr =>
    intro i n hi ih
    (try dsimp only)
    by_cases hlt : i < l.length
    · have h1 : decide ((i : Int) < (l.length : Int)) = true := by simp; omega
      have hget : (l.map eE)[i]? = some (eE l[i]) := by simp [hlt]
      have hd : l.drop i = l[i] :: l.drop (i + 1) := by simp
      have hb : 0 ≤ (i : Int) ∧ (i : Int) < (l.length : Int) := by omega
      simp only [qq, ww, List.replicate, Nat.reduceBEq, Nat.reduceAdd, Nat.reduceMul, Nat.reduceDiv, Nat.reduceEqDiff, Nat.reduceLeDiff, Nat.reduceLT, Int.reduceEq, Int.reduceNe, Int.reduceLT, Int.reduceLE, Int.reduceAdd, Int.reduceSub, Int.reduceMul, Int.reduceNeg, Int.reduceToNat, reduceCtorEq, reduceIte, if_true, if_false, h1, hb.1, hb.2, List.length_map, Int.toNat_natCast, hget, hf, wi i (by omega)]
      refine fin_cases2 (fun hp => ?_) (fun hp => ?_) <;> simp only [j127, b127, q127, qq, ww, List.replicate, Nat.reduceBEq, Nat.reduceAdd, Nat.reduceMul, Nat.reduceDiv, Nat.reduceEqDiff, Nat.reduceLeDiff, Nat.reduceLT, Int.reduceEq, Int.reduceNe, Int.reduceLT, Int.reduceLE, Int.reduceAdd, Int.reduceSub, Int.reduceMul, Int.reduceNeg, Int.reduceToNat, reduceCtorEq, reduceIte, if_true, if_false, wi i (by omega)]
      · rw [hd, ix, hp, if_pos rfl]
      · rw [hd, ix, hp, if_neg (by decide)]
        exact ih hlt _ (by simp only [gcK, lowB, Nat.reduceLeDiff, Nat.reduceBEq, List.contains_nil, List.contains_cons, Bool.or_false, Bool.false_or, Bool.false_eq_true, if_false, Bool.true_and, Bool.and_true, pickL, look_hit, look_miss, look_end, slMent, hpMent, S.ment, S.ment.smt, ments, V.ment, List.append_nil, List.nil_append, List.cons_append, List.all_nil, List.all_cons, Option.isSome_some, Bool.and_self, if_true, reduceIte, Nat.reduceEqDiff, not_false_eq_true, reduceCtorEq, Nat.reduceMul, Nat.reduceAdd])
    · have h1 : decide ((i : Int) < (l.length : Int)) = false := by simp; omega
      simp only [j127, b127, q127, qq, ww, List.replicate, Nat.reduceBEq, Nat.reduceAdd, Nat.reduceMul, Nat.reduceDiv, Nat.reduceEqDiff, Nat.reduceLeDiff, Nat.reduceLT, Int.reduceEq, Int.reduceNe, Int.reduceLT, Int.reduceLE, Int.reduceAdd, Int.reduceSub, Int.reduceMul, Int.reduceNeg, Int.reduceToNat, reduceCtorEq, reduceIte, if_true, if_false, h1]
      rw [List.drop_of_length_le (by omega)]
      rfl
  rfl

theorem ix_any {α : Type} (p : α → Bool) : ∀ (l : List α) (i : Int), 0 ≤ i → decide (ix p l i ≥ 0) = l.any p
  | [], i, h => by simp [ix]
  | x :: r, i, h => by
    have := ix_any p r (i + 1) (by omega)
    cases hp : p x <;> simp_all [ix]
theorem e100 (N d f : Nat) (p : Ev → Bool) (hf : ∀ x, TT N d f [aE x] = some (bV (p x), [])) (l : List Ev) (hN : l.length < N) (hl : l.length < 1000000) : TT N (d + 2) 100 [.one (rE l), .one (.fn f [])] = some (bV (l.any p), []) := by
  rw [t100, F_ev rfl]
  simp only [e127 N d f p hf l hN hl, j100, b100, q100, qq, ww, List.replicate, Nat.reduceBEq, Nat.reduceAdd, Nat.reduceMul, Nat.reduceDiv, Nat.reduceEqDiff, Nat.reduceLeDiff, Nat.reduceLT, Int.reduceEq, Int.reduceNe, Int.reduceLT, Int.reduceLE, Int.reduceAdd, Int.reduceSub, Int.reduceMul, Int.reduceNeg, Int.reduceToNat, reduceCtorEq, reduceIte, if_true, if_false]
  simp [ix_any]
end Go.Proofs.YtkfcbpbnoeaheaaGreatDoor.QA
namespace Go.Proofs.YtkfcbpbnoeaheaaGreatDoor.QA
open Go Go.Proofs.YtkfcbpbnoeaheaaGreatDoorR IG
set_option maxRecDepth 100000
def lastK (l : List Ev) : Int := match l.getLast? with
  | some y => y.k
  | none => 0
def qOK (l : List Ev) (limit : Int) : Bool := decide (2 ≤ limit) && decide (limit ≤ 32) && decide ((l.length : Int) ≤ limit) && l.all evOK && (!decide ((l.length : Int) = limit) || decide (lastK l = 2))
theorem any_not {α : Type} (p : α → Bool) (l : List α) : l.any (fun x => !p x) = !l.all p := by
  induction l with
  | nil => rfl
  | cons a r ih => simp only [List.any_cons, List.all_cons, ih]; cases p a <;> simp
theorem last_of {l : List Ev} (h : 0 < l.length) : ∃ y, l[l.length - 1]? = some y ∧ lastK l = y.k := by
  refine ⟨l[l.length - 1], by simp, ?_⟩
  simp [lastK, List.getLast?_eq_getElem?, List.getElem?_eq_getElem (show l.length - 1 < l.length by omega)]
theorem e64 (N d : Nat) (l : List Ev) (limit : Int) (hN : l.length < N) (hl : l.length < 1000000) : TT N (d + 10) 64 [.one (rE l), iV limit] = some (iV (if qOK l limit then 0 else 1), []) := by
  have h53 := fun d => e100 N (d + 7) 101 (fun x => !evOK x) (fun x => e101 N d x) l hN hl
  rw [t64, F_ev rfl]
  by_cases hc : 2 ≤ limit ∧ limit ≤ 32 ∧ (l.length : Int) = limit
  · obtain ⟨h1, h2, h3⟩ := hc
    obtain ⟨y, hy, hk⟩ := last_of (l := l) (by omega)
    have hw : IntKind.i64.wrap (limit - 1) = limit - 1 := IntWalk.i64_in _ (by omega)
    have hg : (l.map eE)[(limit - 1).toNat]? = some (eE y) := by rw [show (limit - 1).toNat = l.length - 1 by omega]; exact get_map hy
    have hb : 0 ≤ limit - 1 ∧ limit - 1 < (l.length : Int) := by omega
    simp only [h53, hw, hg, hb.1, hb.2, List.length_map, j64, b64, q64, qq, ww, List.replicate, Nat.reduceBEq, Nat.reduceAdd, Nat.reduceMul, Nat.reduceDiv, Nat.reduceEqDiff, Nat.reduceLeDiff, Nat.reduceLT, Int.reduceEq, Int.reduceNe, Int.reduceLT, Int.reduceLE, Int.reduceAdd, Int.reduceSub, Int.reduceMul, Int.reduceNeg, Int.reduceToNat, reduceCtorEq, reduceIte, if_true, if_false]
    repeat' (refine fin_cases (fun h1 => ?_) (fun h1 => ?_) <;> simp only [h1, h53, hw, hg, hb.1, hb.2, List.length_map, j64, b64, q64, qq, ww, List.replicate, Nat.reduceBEq, Nat.reduceAdd, Nat.reduceMul, Nat.reduceDiv, Nat.reduceEqDiff, Nat.reduceLeDiff, Nat.reduceLT, Int.reduceEq, Int.reduceNe, Int.reduceLT, Int.reduceLE, Int.reduceAdd, Int.reduceSub, Int.reduceMul, Int.reduceNeg, Int.reduceToNat, reduceCtorEq, reduceIte, if_true, if_false])
    all_goals clear h53; simp_all [qOK, any_not]
    all_goals (intros; first | omega | grind)
  · simp only [h53, List.length_map, j64, b64, q64, qq, ww, List.replicate, Nat.reduceBEq, Nat.reduceAdd, Nat.reduceMul, Nat.reduceDiv, Nat.reduceEqDiff, Nat.reduceLeDiff, Nat.reduceLT, Int.reduceEq, Int.reduceNe, Int.reduceLT, Int.reduceLE, Int.reduceAdd, Int.reduceSub, Int.reduceMul, Int.reduceNeg, Int.reduceToNat, reduceCtorEq, reduceIte, if_true, if_false]
    repeat' (refine fin_cases (fun h1 => ?_) (fun h1 => ?_) <;> simp only [h1, h53, List.length_map, j64, b64, q64, qq, ww, List.replicate, Nat.reduceBEq, Nat.reduceAdd, Nat.reduceMul, Nat.reduceDiv, Nat.reduceEqDiff, Nat.reduceLeDiff, Nat.reduceLT, Int.reduceEq, Int.reduceNe, Int.reduceLT, Int.reduceLE, Int.reduceAdd, Int.reduceSub, Int.reduceMul, Int.reduceNeg, Int.reduceToNat, reduceCtorEq, reduceIte, if_true, if_false])
    all_goals clear h53; simp_all [qOK, any_not]
    all_goals (intros; first | omega | grind)
end Go.Proofs.YtkfcbpbnoeaheaaGreatDoor.QA
namespace Go.Proofs.YtkfcbpbnoeaheaaGreatDoor.QA
open Go Go.Proofs.YtkfcbpbnoeaheaaGreatDoorR IG
set_option maxRecDepth 100000
theorem eq_ev {x y : Ev} : decide (x = y) = (decide (x.k = y.k) && (decide (x.e = y.e) && (decide (x.s = y.s) && (decide (x.l = y.l) && (decide (x.v = y.v) && decide (x.c = y.c)))))) := by
  cases x; cases y; simp
theorem dcons {α : Type} [DecidableEq α] {x y : α} {r q : List α} : decide (x :: r = y :: q) = (decide (x = y) && decide (r = q)) := by simp
theorem e17 (N d : Nat) (a b : List Ev) (hN : a.length < N) (hl : a.length < 1000000) : TT N (d + 1) 17 [.one (rE a), .one (rE b)] = some (bV (decide (a = b)), []) := by
  rw [t17, F_ev rfl]
  simp only [List.length_map, j17, b17, q17, qq, ww, List.replicate, Nat.reduceBEq, Nat.reduceAdd, Nat.reduceMul, Nat.reduceDiv, Nat.reduceEqDiff, Nat.reduceLeDiff, Nat.reduceLT, Int.reduceEq, Int.reduceNe, Int.reduceLT, Int.reduceLE, Int.reduceAdd, Int.reduceSub, Int.reduceMul, Int.reduceNeg, Int.reduceToNat, reduceCtorEq, reduceIte, if_true, if_false]
  refine fin_cases (fun h => ?_) (fun h => ?_) <;> simp only [h, List.length_map, j17, b17, q17, qq, ww, List.replicate, Nat.reduceBEq, Nat.reduceAdd, Nat.reduceMul, Nat.reduceDiv, Nat.reduceEqDiff, Nat.reduceLeDiff, Nat.reduceLT, Int.reduceEq, Int.reduceNe, Int.reduceLT, Int.reduceLE, Int.reduceAdd, Int.reduceSub, Int.reduceMul, Int.reduceNeg, Int.reduceToNat, reduceCtorEq, reduceIte, if_true, if_false]
  · have : ¬ a = b := fun e => by subst e; simp at h
    simp [this]
  have hab : a.length = b.length := by simp at h; omega
  refine (loopK (K := fun o => fin _ (aft _ _ _ o)) (fun i => ⟨[(0, .one (rE a)), (1, .one (rE b)), (5, iV i)], []⟩) (fun i => some (bV (decide (a.drop i = b.drop i)), [])) a.length ?hr a.length 0 N _ (by omega) hN ?hk).trans ?_
  case hk => simp only [gcK, lowB, Nat.reduceLeDiff, Nat.reduceBEq, List.contains_nil, List.contains_cons, Bool.or_false, Bool.false_or, Bool.false_eq_true, if_false, Bool.true_and, Bool.and_true, pickL, look_hit, look_miss, look_end, slMent, hpMent, S.ment, S.ment.smt, ments, V.ment, List.append_nil, List.nil_append, List.cons_append, List.all_nil, List.all_cons, Option.isSome_some, Bool.and_self, if_true, reduceIte, Nat.reduceEqDiff, not_false_eq_true, reduceCtorEq, Nat.reduceMul, Nat.reduceAdd]; rfl
  case hr =>
    intro i n hi ih
    (try dsimp only)
    by_cases hlt : i < a.length
    · have h1 : decide ((i : Int) < (a.length : Int)) = true := by simp; omega
      have hg1 : (a.map eE)[i]? = some (eE a[i]) := by simp [hlt]
      have hg2 : (b.map eE)[i]? = some (eE (b[i]'(by omega))) := by simp [hab ▸ hlt]
      have hd1 : a.drop i = a[i] :: a.drop (i + 1) := by simp
      have hd2 : b.drop i = b[i]'(by omega) :: b.drop (i + 1) := by simp
      have hb : 0 ≤ (i : Int) ∧ (i : Int) < (a.length : Int) ∧ (i : Int) < (b.length : Int) := by omega
      simp only [h1, hb.1, hb.2.1, hb.2.2, List.length_map, Int.toNat_natCast, hg1, hg2, wi i (by omega), j17, b17, q17, qq, ww, List.replicate, Nat.reduceBEq, Nat.reduceAdd, Nat.reduceMul, Nat.reduceDiv, Nat.reduceEqDiff, Nat.reduceLeDiff, Nat.reduceLT, Int.reduceEq, Int.reduceNe, Int.reduceLT, Int.reduceLE, Int.reduceAdd, Int.reduceSub, Int.reduceMul, Int.reduceNeg, Int.reduceToNat, reduceCtorEq, reduceIte, if_true, if_false]
      refine fin_cases2 (fun hp => ?_) (fun hp => ?_) <;> simp only [wi i (by omega), j17, b17, q17, qq, ww, List.replicate, Nat.reduceBEq, Nat.reduceAdd, Nat.reduceMul, Nat.reduceDiv, Nat.reduceEqDiff, Nat.reduceLeDiff, Nat.reduceLT, Int.reduceEq, Int.reduceNe, Int.reduceLT, Int.reduceLE, Int.reduceAdd, Int.reduceSub, Int.reduceMul, Int.reduceNeg, Int.reduceToNat, reduceCtorEq, reduceIte, if_true, if_false]
      · have hx : decide (a[i] = b[i]'(by omega)) = false := by rw [eq_ev]; simpa only [Bool.not_eq_true'] using hp
        rw [hd1, hd2, dcons, hx]; rfl
      · have hx : decide (a[i] = b[i]'(by omega)) = true := by rw [eq_ev]; simpa only [Bool.not_eq_false'] using hp
        rw [hd1, hd2, dcons, hx, Bool.true_and]
        exact ih hlt _ (by simp only [gcK, lowB, Nat.reduceLeDiff, Nat.reduceBEq, List.contains_nil, List.contains_cons, Bool.or_false, Bool.false_or, Bool.false_eq_true, if_false, Bool.true_and, Bool.and_true, pickL, look_hit, look_miss, look_end, slMent, hpMent, S.ment, S.ment.smt, ments, V.ment, List.append_nil, List.nil_append, List.cons_append, List.all_nil, List.all_cons, Option.isSome_some, Bool.and_self, if_true, reduceIte, Nat.reduceEqDiff, not_false_eq_true, reduceCtorEq, Nat.reduceMul, Nat.reduceAdd])
    · have h1 : decide ((i : Int) < (a.length : Int)) = false := by simp; omega
      simp only [h1, List.length_map, j17, b17, q17, qq, ww, List.replicate, Nat.reduceBEq, Nat.reduceAdd, Nat.reduceMul, Nat.reduceDiv, Nat.reduceEqDiff, Nat.reduceLeDiff, Nat.reduceLT, Int.reduceEq, Int.reduceNe, Int.reduceLT, Int.reduceLE, Int.reduceAdd, Int.reduceSub, Int.reduceMul, Int.reduceNeg, Int.reduceToNat, reduceCtorEq, reduceIte, if_true, if_false]
      rw [List.drop_of_length_le (by omega), List.drop_of_length_le (by omega)]
      rfl
  rfl
theorem e86 (N d : Nat) (l : List Ev) (hl : l.length < 1000000) : TT N (d + 1) 86 [.one (rE l)] = some (.one (.sl 0 0 l.length), [(0, .rows 96 6 (l.map eE))]) := by
  show cloneM 96 6 48 [.one (rE l)] = _
  simp only [cloneM]
  rw [if_pos ⟨by simp, by rw [List.length_map]; omega⟩, List.length_map]
theorem all6 (l : List Ev) : (l.map eE).all (fun x => x.length == 6) = true := by simp
theorem e11 (N d : Nat) (l : List Ev) (hl : l.length < 1000000) : TT N (d + 1) 11 [.one (rE l)] = some (.one (.sl 0 0 l.length), [(0, .rows 96 6 (l.map eE))]) := by
  have hb : l.length * 48 ≤ 140737488355328 := by omega
  rw [t11, F_ev rfl]
  simp only [List.length_map, all6, hb, j11, b11, q11, qq, ww, List.replicate, Nat.reduceBEq, Nat.reduceAdd, Nat.reduceMul, Nat.reduceDiv, Nat.reduceEqDiff, Nat.reduceLeDiff, Nat.reduceLT, Int.reduceEq, Int.reduceNe, Int.reduceLT, Int.reduceLE, Int.reduceAdd, Int.reduceSub, Int.reduceMul, Int.reduceNeg, Int.reduceToNat, reduceCtorEq, reduceIte, if_true, if_false]
  rw [List.take_of_length_le (by simp)]
end Go.Proofs.YtkfcbpbnoeaheaaGreatDoor.QA
namespace Go.Proofs.YtkfcbpbnoeaheaaGreatDoor.QA
open Go Go.Proofs.YtkfcbpbnoeaheaaGreatDoorR IG
set_option maxRecDepth 100000
theorem tk (l : List Ev) : (l.map eE).take l.length = l.map eE := List.take_of_length_le (by simp)
theorem tk1 (l : List Ev) (y : List V) : (l.map eE ++ [y]).take (l.length + 1) = l.map eE ++ [y] := List.take_of_length_le (by simp)
def putE (l : List Ev) (limit : Int) (x : Ev) : Int × List Ev :=
  if qOK l limit && evOK x then
    if (l.length : Int) < limit - 1 then (0, l ++ [x])
    else match gapE x with
      | none => (6, [])
      | some g =>
        if (l.length : Int) < limit then (0, l ++ [g])
        else match l.getLast? with
          | none => (6, [])
          | some y => if g.e = y.e ∧ g.s = y.l + 1 then (0, l.dropLast ++ [{ y with l := g.l }]) else (6, [])
  else (1, [])
theorem e120 (N d : Nat) (l : List Ev) (limit : Int) (x : Ev) (hN : l.length < N) (hl : l.length < 999999) : ans (TT N (d + 11) 120 [.one (rE l), iV limit, aE x]) = some (.tup [.one (rE (putE l limit x).2), iV (putE l limit x).1]) := by
  have h19 := fun d => e64 N d l limit hN (by omega)
  have h46 := fun d => e86 N d l (by omega)
  rw [t120, F_ev rfl]
  simp only [h19, h46, e102, e137, n01, List.length_map, j120, b120, q120, qq, ww, List.replicate, Nat.reduceBEq, Nat.reduceAdd, Nat.reduceMul, Nat.reduceDiv, Nat.reduceEqDiff, Nat.reduceLeDiff, Nat.reduceLT, Int.reduceEq, Int.reduceNe, Int.reduceLT, Int.reduceLE, Int.reduceAdd, Int.reduceSub, Int.reduceMul, Int.reduceNeg, Int.reduceToNat, reduceCtorEq, reduceIte, if_true, if_false]
  by_cases hq : qOK l limit = true
  · simp only [hq, h19, h46, e102, e137, n01, List.length_map, j120, b120, q120, qq, ww, List.replicate, Nat.reduceBEq, Nat.reduceAdd, Nat.reduceMul, Nat.reduceDiv, Nat.reduceEqDiff, Nat.reduceLeDiff, Nat.reduceLT, Int.reduceEq, Int.reduceNe, Int.reduceLT, Int.reduceLE, Int.reduceAdd, Int.reduceSub, Int.reduceMul, Int.reduceNeg, Int.reduceToNat, reduceCtorEq, reduceIte, if_true, if_false]
    refine an_cases (fun h1 => ?_) (fun h1 => ?_) <;> simp only [h1, h19, h46, e102, e137, n01, List.length_map, j120, b120, q120, qq, ww, List.replicate, Nat.reduceBEq, Nat.reduceAdd, Nat.reduceMul, Nat.reduceDiv, Nat.reduceEqDiff, Nat.reduceLeDiff, Nat.reduceLT, Int.reduceEq, Int.reduceNe, Int.reduceLT, Int.reduceLE, Int.reduceAdd, Int.reduceSub, Int.reduceMul, Int.reduceNeg, Int.reduceToNat, reduceCtorEq, reduceIte, if_true, if_false]
    · simp only [putE, hq, show evOK x = false by simpa using h1]; rfl
    · have hx : evOK x = true := by simpa using h1
      have h2 : 2 ≤ limit ∧ limit ≤ 32 ∧ (l.length : Int) ≤ limit := by simp [qOK] at hq; omega
      have hw : IntKind.i64.wrap (limit - 1) = limit - 1 := IntWalk.i64_in _ (by omega)
      have hb : (l.length + 1) * 48 ≤ 140737488355328 := by omega
      have h6 := all6 l
      simp only [hw]
      refine an_cases (fun h3 => ?_) (fun h3 => ?_)
      · simp only [h3, h6, tk, tk1, hw, hb, h19, h46, e102, e137, n01, List.length_map, j120, b120, q120, qq, ww, List.replicate, Nat.reduceBEq, Nat.reduceAdd, Nat.reduceMul, Nat.reduceDiv, Nat.reduceEqDiff, Nat.reduceLeDiff, Nat.reduceLT, Int.reduceEq, Int.reduceNe, Int.reduceLT, Int.reduceLE, Int.reduceAdd, Int.reduceSub, Int.reduceMul, Int.reduceNeg, Int.reduceToNat, reduceCtorEq, reduceIte, if_true, if_false]
        simp only [putE, hq, hx, Bool.and_true, if_true, if_pos (of_decide_eq_true h3)]
        simp
      · have h3' : ¬ (l.length : Int) < limit - 1 := of_decide_eq_false h3
        cases hg : gapE x with
        | none =>
          simp only [hg, h3, h6, tk, tk1, hw, hb, h19, h46, e102, e137, n01, Option.isSome_none, List.length_map, j120, b120, q120, qq, ww, List.replicate, Nat.reduceBEq, Nat.reduceAdd, Nat.reduceMul, Nat.reduceDiv, Nat.reduceEqDiff, Nat.reduceLeDiff, Nat.reduceLT, Int.reduceEq, Int.reduceNe, Int.reduceLT, Int.reduceLE, Int.reduceAdd, Int.reduceSub, Int.reduceMul, Int.reduceNeg, Int.reduceToNat, reduceCtorEq, reduceIte, if_true, if_false]
          simp only [putE, hq, hx, Bool.and_true, if_true, if_neg h3', hg]; rfl
        | some g =>
          simp only [hg, h3, h6, tk, tk1, hw, hb, h19, h46, e102, e137, n01, Option.isSome_some, List.length_map, j120, b120, q120, qq, ww, List.replicate, Nat.reduceBEq, Nat.reduceAdd, Nat.reduceMul, Nat.reduceDiv, Nat.reduceEqDiff, Nat.reduceLeDiff, Nat.reduceLT, Int.reduceEq, Int.reduceNe, Int.reduceLT, Int.reduceLE, Int.reduceAdd, Int.reduceSub, Int.reduceMul, Int.reduceNeg, Int.reduceToNat, reduceCtorEq, reduceIte, if_true, if_false]
          refine an_cases (fun h4 => ?_) (fun h4 => ?_)
          · simp only [h4, h6, tk, tk1, hw, hb, h19, h46, e102, e137, n01, List.length_map, j120, b120, q120, qq, ww, List.replicate, Nat.reduceBEq, Nat.reduceAdd, Nat.reduceMul, Nat.reduceDiv, Nat.reduceEqDiff, Nat.reduceLeDiff, Nat.reduceLT, Int.reduceEq, Int.reduceNe, Int.reduceLT, Int.reduceLE, Int.reduceAdd, Int.reduceSub, Int.reduceMul, Int.reduceNeg, Int.reduceToNat, reduceCtorEq, reduceIte, if_true, if_false]
            simp only [putE, hq, hx, Bool.and_true, if_true, if_neg h3', hg, if_pos (of_decide_eq_true h4)]
            simp
          · have h4' : ¬ (l.length : Int) < limit := of_decide_eq_false h4
            rcases List.eq_nil_or_concat l with rfl | ⟨q, y, rfl⟩
            · simp at h4'; omega
            · simp only [List.concat_eq_append] at *
              have hi : (limit - 1).toNat = q.length := by simp at h4' h2; omega
              have hgt : (q.map eE ++ [eE y])[q.length]? = some (eE y) := by simp
              have hset : ∀ v, (q.map eE ++ [eE y]).set q.length v = q.map eE ++ [v] := by intro v; simp
              have htk : ∀ v, (q.map eE ++ [v]).take (q.length + 1) = q.map eE ++ [v] := fun v => List.take_of_length_le (by simp)
              have hb0 : limit - 1 < ((q.length + 1 : Nat) : Int) := by simp at h4' h2 ⊢; omega
              have hb1 : 0 ≤ limit - 1 := by omega
              have hy : y.k = 2 ∧ evOK y = true := by
                simp [qOK, lastK] at hq
                refine ⟨hq.2.resolve_left ?_, hq.1.2.2⟩
                simp at h4' h2; omega
              have hyl : IntKind.i64.wrap (y.l + 1) = y.l + 1 := IntWalk.i64_in _ (by have := hy.2; simp [evOK, hy.1, inB] at this; omega)
              simp only [h4, h6, tk, tk1, hw, hb, hi, hb0, hb1, hgt, hset, htk, hyl, h19, h46, e102, e137, n01, List.length_map, j120, b120, q120, qq, ww, List.replicate, Nat.reduceBEq, Nat.reduceAdd, Nat.reduceMul, Nat.reduceDiv, Nat.reduceEqDiff, Nat.reduceLeDiff, Nat.reduceLT, Int.reduceEq, Int.reduceNe, Int.reduceLT, Int.reduceLE, Int.reduceAdd, Int.reduceSub, Int.reduceMul, Int.reduceNeg, Int.reduceToNat, reduceCtorEq, reduceIte, if_true, if_false]
              have hp : putE (q ++ [y]) limit x = if g.e = y.e ∧ g.s = y.l + 1 then (0, q ++ [{ y with l := g.l }]) else (6, []) := by
                simp only [putE, hq, hx, Bool.and_true, if_true, if_neg h3', hg, if_neg h4']
                simp
              rw [hp]
              repeat' (refine an_cases (fun h7 => ?_) (fun h7 => ?_) <;> simp only [h7, h4, h6, tk, tk1, hw, hb, hi, hb0, hb1, hgt, hset, htk, hyl, h19, h46, e102, e137, n01, List.length_map, j120, b120, q120, qq, ww, List.replicate, Nat.reduceBEq, Nat.reduceAdd, Nat.reduceMul, Nat.reduceDiv, Nat.reduceEqDiff, Nat.reduceLeDiff, Nat.reduceLT, Int.reduceEq, Int.reduceNe, Int.reduceLT, Int.reduceLE, Int.reduceAdd, Int.reduceSub, Int.reduceMul, Int.reduceNeg, Int.reduceToNat, reduceCtorEq, reduceIte, if_true, if_false])
              all_goals clear h19 h46 htk hset hgt hp hq h6 hy hyl
              all_goals simp_all
  · simp only [hq, h19, h46, e102, e137, n01, List.length_map, j120, b120, q120, qq, ww, List.replicate, Nat.reduceBEq, Nat.reduceAdd, Nat.reduceMul, Nat.reduceDiv, Nat.reduceEqDiff, Nat.reduceLeDiff, Nat.reduceLT, Int.reduceEq, Int.reduceNe, Int.reduceLT, Int.reduceLE, Int.reduceAdd, Int.reduceSub, Int.reduceMul, Int.reduceNeg, Int.reduceToNat, reduceCtorEq, reduceIte, if_true, if_false]
    simp only [putE, show qOK l limit = false by simpa using hq]; rfl
end Go.Proofs.YtkfcbpbnoeaheaaGreatDoor.QA
namespace Go.Proofs.YtkfcbpbnoeaheaaGreatDoor.QA
open Go Go.Proofs.YtkfcbpbnoeaheaaGreatDoorR IG
set_option maxRecDepth 100000
theorem e104 (N d : Nat) (l : List Ev) (limit : Int) (x : Ev) (hl : l.length < 999999) (hq : qOK l limit = true) (hx : evOK x = true) :
    ans (TT N (d + 2) 104 [.one (rE l), iV limit, aE x]) = some (.tup [.one (rE (if (putE l limit x).1 = 0 then (putE l limit x).2 else l)), bV (decide ((putE l limit x).1 = 0))]) := by
  have h13 := fun d => e11 N d l (by omega)
  have h2 : 2 ≤ limit ∧ limit ≤ 32 ∧ (l.length : Int) ≤ limit := by simp [qOK] at hq; omega
  have hw : IntKind.i64.wrap (limit - 1) = limit - 1 := IntWalk.i64_in _ (by omega)
  have hb : (l.length + 1) * 48 ≤ 140737488355328 := by omega
  have h6 := all6 l
  rw [t104, F_ev rfl]
  simp only [h13, hw, List.length_map, j104, b104, q104, qq, ww, List.replicate, Nat.reduceBEq, Nat.reduceAdd, Nat.reduceMul, Nat.reduceDiv, Nat.reduceEqDiff, Nat.reduceLeDiff, Nat.reduceLT, Int.reduceEq, Int.reduceNe, Int.reduceLT, Int.reduceLE, Int.reduceAdd, Int.reduceSub, Int.reduceMul, Int.reduceNeg, Int.reduceToNat, reduceCtorEq, reduceIte, if_true, if_false]
  refine an_cases (fun h3 => ?_) (fun h3 => ?_)
  · simp only [h3, h6, tk, tk1, hw, hb, h13, List.length_map, j104, b104, q104, qq, ww, List.replicate, Nat.reduceBEq, Nat.reduceAdd, Nat.reduceMul, Nat.reduceDiv, Nat.reduceEqDiff, Nat.reduceLeDiff, Nat.reduceLT, Int.reduceEq, Int.reduceNe, Int.reduceLT, Int.reduceLE, Int.reduceAdd, Int.reduceSub, Int.reduceMul, Int.reduceNeg, Int.reduceToNat, reduceCtorEq, reduceIte, if_true, if_false]
    simp only [putE, hq, hx, Bool.and_true, if_true, if_pos (of_decide_eq_true h3)]
    simp
  have h3' : ¬ (l.length : Int) < limit - 1 := of_decide_eq_false h3
  by_cases hk : x.k = 1 ∨ x.k = 2
  · obtain ⟨L, hL, hg⟩ : ∃ L, (x.k = 1 ∧ L = x.s ∨ x.k = 2 ∧ L = x.l) ∧ gapE x = some ⟨2, x.e, x.s, L, 0, 0⟩ := by
      rcases hk with hk | hk
      · exact ⟨x.s, .inl ⟨hk, rfl⟩, by simp [gapE, hk]⟩
      · refine ⟨x.l, .inr ⟨hk, rfl⟩, ?_⟩
        simp [evOK, hk] at hx
        simp [gapE, hk]
        cases x; simp_all
    have hxs : 1 ≤ x.s := by
      rcases hk with hk | hk <;> (simp [evOK, hk, inB] at hx; omega)
    rcases hL with ⟨hk1, rfl⟩ | ⟨hk1, rfl⟩ <;> simp only [hk1, h13, hw, List.length_map, j104, b104, q104, qq, ww, List.replicate, Nat.reduceBEq, Nat.reduceAdd, Nat.reduceMul, Nat.reduceDiv, Nat.reduceEqDiff, Nat.reduceLeDiff, Nat.reduceLT, Int.reduceEq, Int.reduceNe, Int.reduceLT, Int.reduceLE, Int.reduceAdd, Int.reduceSub, Int.reduceMul, Int.reduceNeg, Int.reduceToNat, reduceCtorEq, reduceIte, if_true, if_false]
    all_goals refine an_cases (fun h5 => ?_) (fun h5 => ?_)
    all_goals simp only [h5, hk1, h6, tk, tk1, hb, h13, hw, List.length_map, j104, b104, q104, qq, ww, List.replicate, Nat.reduceBEq, Nat.reduceAdd, Nat.reduceMul, Nat.reduceDiv, Nat.reduceEqDiff, Nat.reduceLeDiff, Nat.reduceLT, Int.reduceEq, Int.reduceNe, Int.reduceLT, Int.reduceLE, Int.reduceAdd, Int.reduceSub, Int.reduceMul, Int.reduceNeg, Int.reduceToNat, reduceCtorEq, reduceIte, if_true, if_false]
    · have h6' : (l.length : Int) < limit := by have := of_decide_eq_true h5; omega
      simp only [putE, hq, hx, Bool.and_true, if_true, if_neg h3', hg, if_pos h6']
      simp
    · have h4' : ¬ (l.length : Int) < limit := by have := of_decide_eq_false h5; omega
      rcases List.eq_nil_or_concat l with rfl | ⟨q, y, rfl⟩
      · simp at h4'; omega
      · simp only [List.concat_eq_append] at *
        have hi : (limit - 1).toNat = q.length := by simp at h4' h2; omega
        have hi' : (((q.length + 1 : Nat) : Int) - 1).toNat = q.length := by omega
        have hw' : IntKind.i64.wrap (((q.length + 1 : Nat) : Int) - 1) = ((q.length + 1 : Nat) : Int) - 1 := IntWalk.i64_in _ (by omega)
        have hgt : (q.map eE ++ [eE y])[q.length]? = some (eE y) := by simp
        have hset : ∀ v, (q.map eE ++ [eE y]).set q.length v = q.map eE ++ [v] := by intro v; simp
        have htk : ∀ v, (q.map eE ++ [v]).take (q.length + 1) = q.map eE ++ [v] := fun v => List.take_of_length_le (by simp)
        have hb0 : ((q.length + 1 : Nat) : Int) - 1 < ((q.length + 1 : Nat) : Int) := by omega
        have hb1 : 0 ≤ ((q.length + 1 : Nat) : Int) - 1 := by omega
        have hxl : IntKind.i64.wrap (x.s - 1) = x.s - 1 := IntWalk.i64_in _ (by rcases hk with hk | hk <;> (simp [evOK, hk, inB] at hx; omega))
        simp only [hk1, h6, tk, tk1, hw', hxl, hb, hi', hb0, hb1, hgt, hset, htk, h13, List.length_map, j104, b104, q104, qq, ww, List.replicate, Nat.reduceBEq, Nat.reduceAdd, Nat.reduceMul, Nat.reduceDiv, Nat.reduceEqDiff, Nat.reduceLeDiff, Nat.reduceLT, Int.reduceEq, Int.reduceNe, Int.reduceLT, Int.reduceLE, Int.reduceAdd, Int.reduceSub, Int.reduceMul, Int.reduceNeg, Int.reduceToNat, reduceCtorEq, reduceIte, if_true, if_false]
        have hp : putE (q ++ [y]) limit x = if x.e = y.e ∧ x.s = y.l + 1 then (0, q ++ [{ y with l := x.s }]) else (6, []) := by
          simp only [putE, hq, hx, Bool.and_true, if_true, if_neg h3', hg, if_neg h4']
          simp
        rw [hp]
        repeat' (refine an_cases (fun h7 => ?_) (fun h7 => ?_) <;> simp only [h7, hk1, h6, tk, tk1, hw', hxl, hb, hi', hb0, hb1, hgt, hset, htk, h13, List.length_map, j104, b104, q104, qq, ww, List.replicate, Nat.reduceBEq, Nat.reduceAdd, Nat.reduceMul, Nat.reduceDiv, Nat.reduceEqDiff, Nat.reduceLeDiff, Nat.reduceLT, Int.reduceEq, Int.reduceNe, Int.reduceLT, Int.reduceLE, Int.reduceAdd, Int.reduceSub, Int.reduceMul, Int.reduceNeg, Int.reduceToNat, reduceCtorEq, reduceIte, if_true, if_false])
        all_goals clear h13 htk hset hgt hp hq h6 hx
        all_goals (try simp only [decide_eq_true_eq, decide_eq_false_iff_not] at *)
        all_goals by_cases hcc : x.e = y.e ∧ x.s = y.l + 1
        all_goals first | (exfalso; omega) | (simp only [if_pos hcc]; simp) | (simp only [if_neg hcc]; simp)
    · have h6' : (l.length : Int) < limit := by have := of_decide_eq_true h5; omega
      simp only [putE, hq, hx, Bool.and_true, if_true, if_neg h3', hg, if_pos h6']
      simp
    · have h4' : ¬ (l.length : Int) < limit := by have := of_decide_eq_false h5; omega
      rcases List.eq_nil_or_concat l with rfl | ⟨q, y, rfl⟩
      · simp at h4'; omega
      · simp only [List.concat_eq_append] at *
        have hi : (limit - 1).toNat = q.length := by simp at h4' h2; omega
        have hi' : (((q.length + 1 : Nat) : Int) - 1).toNat = q.length := by omega
        have hw' : IntKind.i64.wrap (((q.length + 1 : Nat) : Int) - 1) = ((q.length + 1 : Nat) : Int) - 1 := IntWalk.i64_in _ (by omega)
        have hgt : (q.map eE ++ [eE y])[q.length]? = some (eE y) := by simp
        have hset : ∀ v, (q.map eE ++ [eE y]).set q.length v = q.map eE ++ [v] := by intro v; simp
        have htk : ∀ v, (q.map eE ++ [v]).take (q.length + 1) = q.map eE ++ [v] := fun v => List.take_of_length_le (by simp)
        have hb0 : ((q.length + 1 : Nat) : Int) - 1 < ((q.length + 1 : Nat) : Int) := by omega
        have hb1 : 0 ≤ ((q.length + 1 : Nat) : Int) - 1 := by omega
        have hxl : IntKind.i64.wrap (x.s - 1) = x.s - 1 := IntWalk.i64_in _ (by rcases hk with hk | hk <;> (simp [evOK, hk, inB] at hx; omega))
        simp only [hk1, h6, tk, tk1, hw', hxl, hb, hi', hb0, hb1, hgt, hset, htk, h13, List.length_map, j104, b104, q104, qq, ww, List.replicate, Nat.reduceBEq, Nat.reduceAdd, Nat.reduceMul, Nat.reduceDiv, Nat.reduceEqDiff, Nat.reduceLeDiff, Nat.reduceLT, Int.reduceEq, Int.reduceNe, Int.reduceLT, Int.reduceLE, Int.reduceAdd, Int.reduceSub, Int.reduceMul, Int.reduceNeg, Int.reduceToNat, reduceCtorEq, reduceIte, if_true, if_false]
        have hp : putE (q ++ [y]) limit x = if x.e = y.e ∧ x.s = y.l + 1 then (0, q ++ [{ y with l := x.l }]) else (6, []) := by
          simp only [putE, hq, hx, Bool.and_true, if_true, if_neg h3', hg, if_neg h4']
          simp
        rw [hp]
        repeat' (refine an_cases (fun h7 => ?_) (fun h7 => ?_) <;> simp only [h7, hk1, h6, tk, tk1, hw', hxl, hb, hi', hb0, hb1, hgt, hset, htk, h13, List.length_map, j104, b104, q104, qq, ww, List.replicate, Nat.reduceBEq, Nat.reduceAdd, Nat.reduceMul, Nat.reduceDiv, Nat.reduceEqDiff, Nat.reduceLeDiff, Nat.reduceLT, Int.reduceEq, Int.reduceNe, Int.reduceLT, Int.reduceLE, Int.reduceAdd, Int.reduceSub, Int.reduceMul, Int.reduceNeg, Int.reduceToNat, reduceCtorEq, reduceIte, if_true, if_false])
        all_goals clear h13 htk hset hgt hp hq h6 hx
        all_goals (try simp only [decide_eq_true_eq, decide_eq_false_iff_not] at *)
        all_goals by_cases hcc : x.e = y.e ∧ x.s = y.l + 1
        all_goals first | (exfalso; omega) | (simp only [if_pos hcc]; simp) | (simp only [if_neg hcc]; simp)
  · have h4 : (!decide (x.k = 1)) = true ∧ (!decide (x.k = 2)) = true := by simp at hk ⊢; exact hk
    simp only [h4.1, h4.2, tk, h13, hw, List.length_map, j104, b104, q104, qq, ww, List.replicate, Nat.reduceBEq, Nat.reduceAdd, Nat.reduceMul, Nat.reduceDiv, Nat.reduceEqDiff, Nat.reduceLeDiff, Nat.reduceLT, Int.reduceEq, Int.reduceNe, Int.reduceLT, Int.reduceLE, Int.reduceAdd, Int.reduceSub, Int.reduceMul, Int.reduceNeg, Int.reduceToNat, reduceCtorEq, reduceIte, if_true, if_false]
    have hg : gapE x = none := by simp [gapE]; simp at h4; simp [h4]
    simp only [putE, hq, hx, Bool.and_true, if_true, if_neg h3', hg]
    simp
end Go.Proofs.YtkfcbpbnoeaheaaGreatDoor.QA
namespace Go.Proofs.YtkfcbpbnoeaheaaGreatDoor.AA
open Go Go.Proofs.YtkfcbpbnoeaheaaGreatDoorR IG
set_option maxRecDepth 100000
set_option maxHeartbeats 4000000
def inB (n lo hi : Int) : Bool := decide (lo ≤ n) && decide (n ≤ hi)
theorem wi (i : Nat) (h : i < 4611686018427387904) : IntKind.i64.wrap ((i : Int) + 1) = ((i + 1 : Nat) : Int) := by rw [IntWalk.i64_in _ (by omega)]; omega
structure It where
  (s v : Int)
  deriving DecidableEq
abbrev eT (x : It) : List V := [.int .i64 x.s, .int .i64 x.v]
abbrev aT (x : It) : S := .agg (eT x)
abbrev rT (l : List It) : V := .row (l.map eT)
theorem takeT (l : List It) : (l.map eT).take l.length = l.map eT := by rw [List.take_of_length_le (by simp)]
theorem allT (l : List It) : (l.map eT).all (fun x => x.length == 2) = true := by simp
theorem take_s {α : Type} {l : List α} {i : Nat} (h : i < l.length) : l.take (i + 1) = l.take i ++ [l[i]] := by simp
theorem e84 (N d) (n lo hi) : TT N (d + 1) 84 [iV n, iV lo, iV hi] = some (bV (inB n lo hi), []) := by
  rw [t84, F_ev rfl]
  simp only [j84, b84, q84, qq, ww, List.replicate, Nat.reduceBEq, Nat.reduceAdd, Nat.reduceMul, Nat.reduceDiv, Nat.reduceEqDiff, Nat.reduceLeDiff, Nat.reduceLT, Int.reduceEq, Int.reduceNe, Int.reduceLT, Int.reduceLE, Int.reduceAdd, Int.reduceSub, Int.reduceMul, Int.reduceNeg, Int.reduceToNat, reduceCtorEq, reduceIte, if_true, if_false]
  repeat' (refine fin_cases (fun h1 => ?_) (fun h1 => ?_) <;> simp only [h1, j84, b84, q84, qq, ww, List.replicate, Nat.reduceBEq, Nat.reduceAdd, Nat.reduceMul, Nat.reduceDiv, Nat.reduceEqDiff, Nat.reduceLeDiff, Nat.reduceLT, Int.reduceEq, Int.reduceNe, Int.reduceLT, Int.reduceLE, Int.reduceAdd, Int.reduceSub, Int.reduceMul, Int.reduceNeg, Int.reduceToNat, reduceCtorEq, reduceIte, if_true, if_false])
  all_goals grind [inB]
theorem e56 (N d) (n lo hi) : TT N (d + 1) 56 [iV n, iV lo, iV hi] = some (bV (inB n lo hi), []) := by
  rw [t56, F_ev rfl]
  simp only [j56, b56, q56, qq, ww, List.replicate, Nat.reduceBEq, Nat.reduceAdd, Nat.reduceMul, Nat.reduceDiv, Nat.reduceEqDiff, Nat.reduceLeDiff, Nat.reduceLT, Int.reduceEq, Int.reduceNe, Int.reduceLT, Int.reduceLE, Int.reduceAdd, Int.reduceSub, Int.reduceMul, Int.reduceNeg, Int.reduceToNat, reduceCtorEq, reduceIte, if_true, if_false]
  repeat' (refine fin_cases (fun h1 => ?_) (fun h1 => ?_) <;> simp only [h1, j56, b56, q56, qq, ww, List.replicate, Nat.reduceBEq, Nat.reduceAdd, Nat.reduceMul, Nat.reduceDiv, Nat.reduceEqDiff, Nat.reduceLeDiff, Nat.reduceLT, Int.reduceEq, Int.reduceNe, Int.reduceLT, Int.reduceLE, Int.reduceAdd, Int.reduceSub, Int.reduceMul, Int.reduceNeg, Int.reduceToNat, reduceCtorEq, reduceIte, if_true, if_false])
  all_goals grind [inB]
theorem e46 (N d) (n) : TT N (d + 2) 46 [iV n] = some (bV (inB n 1 1073741824), []) := by
  rw [t46, F_ev rfl]
  simp only [e84, j46, b46, q46, qq, ww, List.replicate, Nat.reduceBEq, Nat.reduceAdd, Nat.reduceMul, Nat.reduceDiv, Nat.reduceEqDiff, Nat.reduceLeDiff, Nat.reduceLT, Int.reduceEq, Int.reduceNe, Int.reduceLT, Int.reduceLE, Int.reduceAdd, Int.reduceSub, Int.reduceMul, Int.reduceNeg, Int.reduceToNat, reduceCtorEq, reduceIte, if_true, if_false]
  repeat' (refine fin_cases (fun h1 => ?_) (fun h1 => ?_) <;> simp only [h1, e84, j46, b46, q46, qq, ww, List.replicate, Nat.reduceBEq, Nat.reduceAdd, Nat.reduceMul, Nat.reduceDiv, Nat.reduceEqDiff, Nat.reduceLeDiff, Nat.reduceLT, Int.reduceEq, Int.reduceNe, Int.reduceLT, Int.reduceLE, Int.reduceAdd, Int.reduceSub, Int.reduceMul, Int.reduceNeg, Int.reduceToNat, reduceCtorEq, reduceIte, if_true, if_false])
theorem e51 (N d) (n) : TT N (d + 2) 51 [iV n] = some (bV (inB n 0 2147483647), []) := by
  rw [t51, F_ev rfl]
  simp only [e84, j51, b51, q51, qq, ww, List.replicate, Nat.reduceBEq, Nat.reduceAdd, Nat.reduceMul, Nat.reduceDiv, Nat.reduceEqDiff, Nat.reduceLeDiff, Nat.reduceLT, Int.reduceEq, Int.reduceNe, Int.reduceLT, Int.reduceLE, Int.reduceAdd, Int.reduceSub, Int.reduceMul, Int.reduceNeg, Int.reduceToNat, reduceCtorEq, reduceIte, if_true, if_false]
  repeat' (refine fin_cases (fun h1 => ?_) (fun h1 => ?_) <;> simp only [h1, e84, j51, b51, q51, qq, ww, List.replicate, Nat.reduceBEq, Nat.reduceAdd, Nat.reduceMul, Nat.reduceDiv, Nat.reduceEqDiff, Nat.reduceLeDiff, Nat.reduceLT, Int.reduceEq, Int.reduceNe, Int.reduceLT, Int.reduceLE, Int.reduceAdd, Int.reduceSub, Int.reduceMul, Int.reduceNeg, Int.reduceToNat, reduceCtorEq, reduceIte, if_true, if_false])
theorem e24 (N d) (n) : TT N (d + 2) 24 [iV n] = some (bV (inB n 0 2147483647), []) := by
  rw [t24, F_ev rfl]
  simp only [e56, j24, b24, q24, qq, ww, List.replicate, Nat.reduceBEq, Nat.reduceAdd, Nat.reduceMul, Nat.reduceDiv, Nat.reduceEqDiff, Nat.reduceLeDiff, Nat.reduceLT, Int.reduceEq, Int.reduceNe, Int.reduceLT, Int.reduceLE, Int.reduceAdd, Int.reduceSub, Int.reduceMul, Int.reduceNeg, Int.reduceToNat, reduceCtorEq, reduceIte, if_true, if_false]
  repeat' (refine fin_cases (fun h1 => ?_) (fun h1 => ?_) <;> simp only [h1, e56, j24, b24, q24, qq, ww, List.replicate, Nat.reduceBEq, Nat.reduceAdd, Nat.reduceMul, Nat.reduceDiv, Nat.reduceEqDiff, Nat.reduceLeDiff, Nat.reduceLT, Int.reduceEq, Int.reduceNe, Int.reduceLT, Int.reduceLE, Int.reduceAdd, Int.reduceSub, Int.reduceMul, Int.reduceNeg, Int.reduceToNat, reduceCtorEq, reduceIte, if_true, if_false])
def fitsB (s want win : Int) : Bool := decide (want < s) && decide (s < want + win) && decide (s < 1073741824)
theorem e92 (N d) (s want win : Int) (h : IntKind.i64.wrap (want + win) = want + win) : TT N (d + 1) 92 [iV s, iV want, iV win] = some (bV (fitsB s want win), []) := by
  rw [t92, F_ev rfl]
  simp only [h, j92, b92, q92, qq, ww, List.replicate, Nat.reduceBEq, Nat.reduceAdd, Nat.reduceMul, Nat.reduceDiv, Nat.reduceEqDiff, Nat.reduceLeDiff, Nat.reduceLT, Int.reduceEq, Int.reduceNe, Int.reduceLT, Int.reduceLE, Int.reduceAdd, Int.reduceSub, Int.reduceMul, Int.reduceNeg, Int.reduceToNat, reduceCtorEq, reduceIte, if_true, if_false]
  repeat' (refine fin_cases (fun h1 => ?_) (fun h1 => ?_) <;> simp only [h1, h, j92, b92, q92, qq, ww, List.replicate, Nat.reduceBEq, Nat.reduceAdd, Nat.reduceMul, Nat.reduceDiv, Nat.reduceEqDiff, Nat.reduceLeDiff, Nat.reduceLT, Int.reduceEq, Int.reduceNe, Int.reduceLT, Int.reduceLE, Int.reduceAdd, Int.reduceSub, Int.reduceMul, Int.reduceNeg, Int.reduceToNat, reduceCtorEq, reduceIte, if_true, if_false])
  all_goals grind [fitsB]
theorem e44 (N d : Nat) (l : List It) (hl : l.length < 1000000) : TT N (d + 1) 44 [.one (rT l)] = some (.one (.sl 0 0 l.length), [(0, .rows 29 2 (l.map eT))]) := by
  have hb : l.length * 16 ≤ 140737488355328 := by omega
  rw [t44, F_ev rfl]
  simp only [hb, allT, takeT, List.length_map, j44, b44, q44, qq, ww, List.replicate, Nat.reduceBEq, Nat.reduceAdd, Nat.reduceMul, Nat.reduceDiv, Nat.reduceEqDiff, Nat.reduceLeDiff, Nat.reduceLT, Int.reduceEq, Int.reduceNe, Int.reduceLT, Int.reduceLE, Int.reduceAdd, Int.reduceSub, Int.reduceMul, Int.reduceNeg, Int.reduceToNat, reduceCtorEq, reduceIte, if_true, if_false]
theorem e85 (N d : Nat) (l : List It) (hl : l.length < 1000000) : TT N (d + 1) 85 [.one (rT l)] = some (.one (.sl 0 0 l.length), [(0, .rows 29 2 (l.map eT))]) := by
  rw [t85]
  unfold cloneM
  simp only [List.length_map]
  rw [if_pos ⟨allT l, by omega⟩]
theorem eq_it {a b : It} : decide (a = b) = (decide (a.s = b.s) && decide (a.v = b.v)) := by cases a; cases b; simp
theorem dcons {α : Type} [DecidableEq α] {a b : α} {l r : List α} : decide (a :: l = b :: r) = (decide (a = b) && decide (l = r)) := by simp
theorem e26 (N d : Nat) (a b : List It) (hN : a.length < N) (hl : a.length < 1000000) : TT N (d + 1) 26 [.one (rT a), .one (rT b)] = some (bV (decide (a = b)), []) := by
  rw [t26, F_ev rfl]
  simp only [List.length_map, j26, b26, q26, qq, ww, List.replicate, Nat.reduceBEq, Nat.reduceAdd, Nat.reduceMul, Nat.reduceDiv, Nat.reduceEqDiff, Nat.reduceLeDiff, Nat.reduceLT, Int.reduceEq, Int.reduceNe, Int.reduceLT, Int.reduceLE, Int.reduceAdd, Int.reduceSub, Int.reduceMul, Int.reduceNeg, Int.reduceToNat, reduceCtorEq, reduceIte, if_true, if_false]
  refine fin_cases (fun h => ?_) (fun h => ?_) <;> simp only [h, List.length_map, j26, b26, q26, qq, ww, List.replicate, Nat.reduceBEq, Nat.reduceAdd, Nat.reduceMul, Nat.reduceDiv, Nat.reduceEqDiff, Nat.reduceLeDiff, Nat.reduceLT, Int.reduceEq, Int.reduceNe, Int.reduceLT, Int.reduceLE, Int.reduceAdd, Int.reduceSub, Int.reduceMul, Int.reduceNeg, Int.reduceToNat, reduceCtorEq, reduceIte, if_true, if_false]
  · have : ¬ a = b := fun e => by subst e; simp at h
    simp [this]
  have hab : a.length = b.length := by simp at h; omega
  refine (loopK (K := fun o => fin _ (aft _ _ _ o)) (fun i => ⟨[(0, .one (rT a)), (1, .one (rT b)), (5, iV i)], []⟩) (fun i => some (bV (decide (a.drop i = b.drop i)), [])) a.length ?hr a.length 0 N _ (by omega) hN ?hk).trans ?_
  case hk => simp only [gcK, lowB, Nat.reduceLeDiff, Nat.reduceBEq, List.contains_nil, List.contains_cons, Bool.or_false, Bool.false_or, Bool.false_eq_true, if_false, Bool.true_and, Bool.and_true, pickL, look_hit, look_miss, look_end, slMent, hpMent, S.ment, S.ment.smt, ments, V.ment, List.append_nil, List.nil_append, List.cons_append, List.all_nil, List.all_cons, Option.isSome_some, Bool.and_self, if_true, reduceIte, Nat.reduceEqDiff, not_false_eq_true, reduceCtorEq, Nat.reduceMul, Nat.reduceAdd]; rfl
  case hr =>
    intro i n hi ih
    (try dsimp only)
    by_cases hlt : i < a.length
    · have h1 : decide ((i : Int) < (a.length : Int)) = true := by simp; omega
      have hg1 : (a.map eT)[i]? = some (eT a[i]) := by simp [hlt]
      have hg2 : (b.map eT)[i]? = some (eT (b[i]'(by omega))) := by simp [hab ▸ hlt]
      have hd1 : a.drop i = a[i] :: a.drop (i + 1) := by simp
      have hd2 : b.drop i = b[i]'(by omega) :: b.drop (i + 1) := by simp
      have hb : 0 ≤ (i : Int) ∧ (i : Int) < (a.length : Int) ∧ (i : Int) < (b.length : Int) := by omega
      simp only [h1, hb.1, hb.2.1, hb.2.2, List.length_map, Int.toNat_natCast, hg1, hg2, wi i (by omega), j26, b26, q26, qq, ww, List.replicate, Nat.reduceBEq, Nat.reduceAdd, Nat.reduceMul, Nat.reduceDiv, Nat.reduceEqDiff, Nat.reduceLeDiff, Nat.reduceLT, Int.reduceEq, Int.reduceNe, Int.reduceLT, Int.reduceLE, Int.reduceAdd, Int.reduceSub, Int.reduceMul, Int.reduceNeg, Int.reduceToNat, reduceCtorEq, reduceIte, if_true, if_false]
      refine fin_cases2 (fun hp => ?_) (fun hp => ?_) <;> simp only [wi i (by omega), j26, b26, q26, qq, ww, List.replicate, Nat.reduceBEq, Nat.reduceAdd, Nat.reduceMul, Nat.reduceDiv, Nat.reduceEqDiff, Nat.reduceLeDiff, Nat.reduceLT, Int.reduceEq, Int.reduceNe, Int.reduceLT, Int.reduceLE, Int.reduceAdd, Int.reduceSub, Int.reduceMul, Int.reduceNeg, Int.reduceToNat, reduceCtorEq, reduceIte, if_true, if_false]
      · have hx : decide (a[i] = b[i]'(by omega)) = false := by rw [eq_it]; simpa only [Bool.not_eq_true'] using hp
        rw [hd1, hd2, dcons, hx]; rfl
      · have hx : decide (a[i] = b[i]'(by omega)) = true := by rw [eq_it]; simpa only [Bool.not_eq_false'] using hp
        rw [hd1, hd2, dcons, hx, Bool.true_and]
        exact ih hlt _ (by simp only [gcK, lowB, Nat.reduceLeDiff, Nat.reduceBEq, List.contains_nil, List.contains_cons, Bool.or_false, Bool.false_or, Bool.false_eq_true, if_false, Bool.true_and, Bool.and_true, pickL, look_hit, look_miss, look_end, slMent, hpMent, S.ment, S.ment.smt, ments, V.ment, List.append_nil, List.nil_append, List.cons_append, List.all_nil, List.all_cons, Option.isSome_some, Bool.and_self, if_true, reduceIte, Nat.reduceEqDiff, not_false_eq_true, reduceCtorEq, Nat.reduceMul, Nat.reduceAdd])
    · have h1 : decide ((i : Int) < (a.length : Int)) = false := by simp; omega
      simp only [h1, List.length_map, j26, b26, q26, qq, ww, List.replicate, Nat.reduceBEq, Nat.reduceAdd, Nat.reduceMul, Nat.reduceDiv, Nat.reduceEqDiff, Nat.reduceLeDiff, Nat.reduceLT, Int.reduceEq, Int.reduceNe, Int.reduceLT, Int.reduceLE, Int.reduceAdd, Int.reduceSub, Int.reduceMul, Int.reduceNeg, Int.reduceToNat, reduceCtorEq, reduceIte, if_true, if_false]
      rw [List.drop_of_length_le (by omega), List.drop_of_length_le (by omega)]
      rfl
  rfl
def risB (want win : Int) : Option Int → List It → Bool
  | _, [] => true
  | p, x :: r => fitsB x.s want win && inB x.v 0 2147483647 && (match p with
    | some q => decide (q < x.s)
    | none => true) && risB want win (some x.s) r
def ahOK (l : List It) (want win : Int) : Bool := inB want 1 1073741824 && inB win 1 16 && risB want win none l
def prv (l : List It) (i : Nat) : Option Int := if i = 0 then none else (l[i - 1]?).map It.s
theorem prv_s {l : List It} {i : Nat} (h : i < l.length) : prv l (i + 1) = some l[i].s := by
  unfold prv
  rw [if_neg (by omega), Nat.add_sub_cancel, List.getElem?_eq_getElem h]
  rfl
theorem wm (i : Nat) (h : i < 4611686018427387904) (h0 : 0 < i) : IntKind.i64.wrap ((i : Int) - 1) = ((i - 1 : Nat) : Int) := by rw [IntWalk.i64_in _ (by omega)]; omega
theorem e89 (N d : Nat) (l : List It) (want win : Int) (hN : l.length < N) (hl : l.length < 1000000) : TT N (d + 3) 89 [.one (rT l), iV want, iV win] = some (iV (if ahOK l want win then 0 else 1), []) := by
  rw [t89, F_ev rfl]
  simp only [e46, List.length_map, j89, b89, q89, qq, ww, List.replicate, Nat.reduceBEq, Nat.reduceAdd, Nat.reduceMul, Nat.reduceDiv, Nat.reduceEqDiff, Nat.reduceLeDiff, Nat.reduceLT, Int.reduceEq, Int.reduceNe, Int.reduceLT, Int.reduceLE, Int.reduceAdd, Int.reduceSub, Int.reduceMul, Int.reduceNeg, Int.reduceToNat, reduceCtorEq, reduceIte, if_true, if_false]
  refine fin_cases (fun h1 => ?_) (fun h1 => ?_) <;> simp only [h1, e46, List.length_map, j89, b89, q89, qq, ww, List.replicate, Nat.reduceBEq, Nat.reduceAdd, Nat.reduceMul, Nat.reduceDiv, Nat.reduceEqDiff, Nat.reduceLeDiff, Nat.reduceLT, Int.reduceEq, Int.reduceNe, Int.reduceLT, Int.reduceLE, Int.reduceAdd, Int.reduceSub, Int.reduceMul, Int.reduceNeg, Int.reduceToNat, reduceCtorEq, reduceIte, if_true, if_false]
  · simp_all [ahOK]
  refine fin_cases (fun h2 => ?_) (fun h2 => ?_) <;> simp only [h2, e46, List.length_map, j89, b89, q89, qq, ww, List.replicate, Nat.reduceBEq, Nat.reduceAdd, Nat.reduceMul, Nat.reduceDiv, Nat.reduceEqDiff, Nat.reduceLeDiff, Nat.reduceLT, Int.reduceEq, Int.reduceNe, Int.reduceLT, Int.reduceLE, Int.reduceAdd, Int.reduceSub, Int.reduceMul, Int.reduceNeg, Int.reduceToNat, reduceCtorEq, reduceIte, if_true, if_false]
  · simp_all [ahOK, inB]
    intros; omega
  refine fin_cases (fun h3 => ?_) (fun h3 => ?_) <;> simp only [h3, e46, List.length_map, j89, b89, q89, qq, ww, List.replicate, Nat.reduceBEq, Nat.reduceAdd, Nat.reduceMul, Nat.reduceDiv, Nat.reduceEqDiff, Nat.reduceLeDiff, Nat.reduceLT, Int.reduceEq, Int.reduceNe, Int.reduceLT, Int.reduceLE, Int.reduceAdd, Int.reduceSub, Int.reduceMul, Int.reduceNeg, Int.reduceToNat, reduceCtorEq, reduceIte, if_true, if_false]
  · simp_all [ahOK, inB]
    intros; omega
  have hw : 1 ≤ want ∧ want ≤ 1073741824 ∧ 1 ≤ win ∧ win ≤ 16 := by simp [inB] at h1 h2 h3; omega
  have hww : IntKind.i64.wrap (want + win) = want + win := IntWalk.i64_in _ (by omega)
  have h68 := fun d s => e92 N d s want win hww
  have ho : ahOK l want win = risB want win none l := by
    have : inB want 1 1073741824 = true ∧ inB win 1 16 = true := by simp [inB]; omega
    simp [ahOK, this.1, this.2]
  rw [ho]
  refine (loopK (K := fun o => fin _ (aft _ _ _ o)) (fun i => ⟨[(0, .one (rT l)), (1, iV want), (2, iV win), (20, .one (rT l)), (21, iV l.length), (22, iV i)], []⟩) (fun i => some (iV (if risB want win (prv l i) (l.drop i) then 0 else 1), [])) l.length ?hr l.length 0 N _ (by omega) hN ?hk).trans ?_
  case hk => simp only [gcK, lowB, Nat.reduceLeDiff, Nat.reduceBEq, List.contains_nil, List.contains_cons, Bool.or_false, Bool.false_or, Bool.false_eq_true, if_false, Bool.true_and, Bool.and_true, pickL, look_hit, look_miss, look_end, slMent, hpMent, S.ment, S.ment.smt, ments, V.ment, List.append_nil, List.nil_append, List.cons_append, List.all_nil, List.all_cons, Option.isSome_some, Bool.and_self, if_true, reduceIte, Nat.reduceEqDiff, not_false_eq_true, reduceCtorEq, Nat.reduceMul, Nat.reduceAdd]; rfl
  case hr =>
    intro i n hi ih
    (try dsimp only)
    by_cases hlt : i < l.length
    · have h1 : decide ((i : Int) < (l.length : Int)) = true := by simp; omega
      have hg1 : (l.map eT)[i]? = some (eT l[i]) := by simp [hlt]
      have hd1 : l.drop i = l[i] :: l.drop (i + 1) := by simp
      have hb : 0 ≤ (i : Int) ∧ (i : Int) < (l.length : Int) := by omega
      by_cases h0 : i = 0
      · have hpos : decide ((i : Int) > 0) = false := by simp; omega
        have hpv : prv l i = none := by unfold prv; rw [if_pos h0]
        simp only [h1, hb.1, hb.2, hpos, hg1, h68, e51, List.length_map, Int.toNat_natCast, j89, b89, q89, qq, ww, List.replicate, Nat.reduceBEq, Nat.reduceAdd, Nat.reduceMul, Nat.reduceDiv, Nat.reduceEqDiff, Nat.reduceLeDiff, Nat.reduceLT, Int.reduceEq, Int.reduceNe, Int.reduceLT, Int.reduceLE, Int.reduceAdd, Int.reduceSub, Int.reduceMul, Int.reduceNeg, Int.reduceToNat, reduceCtorEq, reduceIte, if_true, if_false]
        repeat' (refine fin_cases2 (fun hp => ?_) (fun hp => ?_) <;> simp only [hp, hpos, e51, wi i (by omega), j89, b89, q89, qq, ww, List.replicate, Nat.reduceBEq, Nat.reduceAdd, Nat.reduceMul, Nat.reduceDiv, Nat.reduceEqDiff, Nat.reduceLeDiff, Nat.reduceLT, Int.reduceEq, Int.reduceNe, Int.reduceLT, Int.reduceLE, Int.reduceAdd, Int.reduceSub, Int.reduceMul, Int.reduceNeg, Int.reduceToNat, reduceCtorEq, reduceIte, if_true, if_false])
        · rw [hd1, hpv]; clear ih hd1; simp_all [risB]
        · rw [hd1, hpv]; clear ih hd1; simp_all [risB]
        · rw [hd1, hpv, risB, ← prv_s hlt]
          refine (ih hlt _ (by simp only [gcK, lowB, Nat.reduceLeDiff, Nat.reduceBEq, List.contains_nil, List.contains_cons, Bool.or_false, Bool.false_or, Bool.false_eq_true, if_false, Bool.true_and, Bool.and_true, pickL, look_hit, look_miss, look_end, slMent, hpMent, S.ment, S.ment.smt, ments, V.ment, List.append_nil, List.nil_append, List.cons_append, List.all_nil, List.all_cons, Option.isSome_some, Bool.and_self, if_true, reduceIte, Nat.reduceEqDiff, not_false_eq_true, reduceCtorEq, Nat.reduceMul, Nat.reduceAdd])).trans ?_
          clear ih hd1
          simp_all
      · obtain ⟨q, hq⟩ : ∃ q, q = l[i - 1]'(by omega) := ⟨_, rfl⟩
        have hg2 : (l.map eT)[i - 1]? = some (eT q) := by rw [List.getElem?_map, List.getElem?_eq_getElem (by omega), hq]; rfl
        have hb2 : 0 ≤ ((i - 1 : Nat) : Int) ∧ ((i - 1 : Nat) : Int) < (l.length : Int) := by omega
        have hpos : decide ((i : Int) > 0) = true := by simp; omega
        have hpv : prv l i = some q.s := by unfold prv; rw [if_neg h0, hq, List.getElem?_eq_getElem (by omega)]; rfl
        simp only [h1, hb.1, hb.2, hg1, hg2, hb2.1, hb2.2, hpos, wm i (by omega) (by omega), h68, e51, List.length_map, Int.toNat_natCast, j89, b89, q89, qq, ww, List.replicate, Nat.reduceBEq, Nat.reduceAdd, Nat.reduceMul, Nat.reduceDiv, Nat.reduceEqDiff, Nat.reduceLeDiff, Nat.reduceLT, Int.reduceEq, Int.reduceNe, Int.reduceLT, Int.reduceLE, Int.reduceAdd, Int.reduceSub, Int.reduceMul, Int.reduceNeg, Int.reduceToNat, reduceCtorEq, reduceIte, if_true, if_false]
        repeat' (refine fin_cases2 (fun hp => ?_) (fun hp => ?_) <;> simp only [hp, hg2, hb2.1, hb2.2, hpos, wm i (by omega) (by omega), e51, List.length_map, Int.toNat_natCast, wi i (by omega), j89, b89, q89, qq, ww, List.replicate, Nat.reduceBEq, Nat.reduceAdd, Nat.reduceMul, Nat.reduceDiv, Nat.reduceEqDiff, Nat.reduceLeDiff, Nat.reduceLT, Int.reduceEq, Int.reduceNe, Int.reduceLT, Int.reduceLE, Int.reduceAdd, Int.reduceSub, Int.reduceMul, Int.reduceNeg, Int.reduceToNat, reduceCtorEq, reduceIte, if_true, if_false])
        · rw [hd1, hpv]; clear ih hd1; simp_all [risB]
        · rw [hd1, hpv]; clear ih hd1; simp_all [risB]
        · have h5 : decide (q.s < l[i].s) = false := by simp at hp ⊢; omega
          rw [hd1, hpv, risB]
          simp only [h5, Bool.and_false, Bool.false_and]
          rfl
        · have h5 : decide (q.s < l[i].s) = true := by simp at hp ⊢; omega
          rw [hd1, hpv, risB, ← prv_s hlt]
          refine (ih hlt _ (by simp only [gcK, lowB, Nat.reduceLeDiff, Nat.reduceBEq, List.contains_nil, List.contains_cons, Bool.or_false, Bool.false_or, Bool.false_eq_true, if_false, Bool.true_and, Bool.and_true, pickL, look_hit, look_miss, look_end, slMent, hpMent, S.ment, S.ment.smt, ments, V.ment, List.append_nil, List.nil_append, List.cons_append, List.all_nil, List.all_cons, Option.isSome_some, Bool.and_self, if_true, reduceIte, Nat.reduceEqDiff, not_false_eq_true, reduceCtorEq, Nat.reduceMul, Nat.reduceAdd])).trans ?_
          clear ih hd1
          simp_all
    · have h1 : decide ((i : Int) < (l.length : Int)) = false := by simp; omega
      simp only [h1, List.length_map, j89, b89, q89, qq, ww, List.replicate, Nat.reduceBEq, Nat.reduceAdd, Nat.reduceMul, Nat.reduceDiv, Nat.reduceEqDiff, Nat.reduceLeDiff, Nat.reduceLT, Int.reduceEq, Int.reduceNe, Int.reduceLT, Int.reduceLE, Int.reduceAdd, Int.reduceSub, Int.reduceMul, Int.reduceNeg, Int.reduceToNat, reduceCtorEq, reduceIte, if_true, if_false]
      rw [List.drop_of_length_le (by omega)]
      rfl
  rfl
end Go.Proofs.YtkfcbpbnoeaheaaGreatDoor.AA
namespace Go.Proofs.YtkfcbpbnoeaheaaGreatDoor.AA
open Go Go.Proofs.YtkfcbpbnoeaheaaGreatDoorR IG
set_option maxRecDepth 100000
set_option maxHeartbeats 4000000
def ix {α : Type} (p : α → Bool) : List α → Int → Int
  | [], _ => -1
  | x :: r, i => if p x then i else ix p r (i + 1)
theorem e90 (N d f : Nat) (ps : List V) (p : It → Bool) (hf : ∀ x, TT N d f [aT x, .one (.ptr ps)] = some (bV (p x), [])) (l : List It) (hN : l.length < N) (hl : l.length < 1000000) : TT N (d + 1) 90 [.one (rT l), .one (.fn f [.ptr ps])] = some (iV (ix p l 0), []) := by
  rw [t90, F_ev rfl]
  simp only [List.length_map, j90, b90, q90, qq, ww, List.replicate, Nat.reduceBEq, Nat.reduceAdd, Nat.reduceMul, Nat.reduceDiv, Nat.reduceEqDiff, Nat.reduceLeDiff, Nat.reduceLT, Int.reduceEq, Int.reduceNe, Int.reduceLT, Int.reduceLE, Int.reduceAdd, Int.reduceSub, Int.reduceMul, Int.reduceNeg, Int.reduceToNat, reduceCtorEq, reduceIte, if_true, if_false]
  refine (loopK (K := fun o => fin _ (aft _ _ _ o)) (fun i => ⟨[(0, .one (rT l)), (1, .one (.fn f [.ptr ps])), (7, iV l.length), (8, iV i)], []⟩) (fun i => some (iV (ix p (l.drop i) i), [])) l.length ?hr l.length 0 N _ (by omega) hN ?hk).trans ?_
  case hk => simp only [gcK, lowB, Nat.reduceLeDiff, Nat.reduceBEq, List.contains_nil, List.contains_cons, Bool.or_false, Bool.false_or, Bool.false_eq_true, if_false, Bool.true_and, Bool.and_true, pickL, look_hit, look_miss, look_end, slMent, hpMent, S.ment, S.ment.smt, ments, V.ment, List.append_nil, List.nil_append, List.cons_append, List.all_nil, List.all_cons, Option.isSome_some, Bool.and_self, if_true, reduceIte, Nat.reduceEqDiff, not_false_eq_true, reduceCtorEq, Nat.reduceMul, Nat.reduceAdd]; rfl
  case hr =>
    intro i n hi ih
    (try dsimp only)
    by_cases hlt : i < l.length
    · have h1 : decide ((i : Int) < (l.length : Int)) = true := by simp; omega
      have hget : (l.map eT)[i]? = some (eT l[i]) := by simp [hlt]
      have hd : l.drop i = l[i] :: l.drop (i + 1) := by simp
      have hb : 0 ≤ (i : Int) ∧ (i : Int) < (l.length : Int) := by omega
      simp only [h1, hb.1, hb.2, List.length_map, Int.toNat_natCast, hget, hf, wi i (by omega), j90, b90, q90, qq, ww, List.replicate, Nat.reduceBEq, Nat.reduceAdd, Nat.reduceMul, Nat.reduceDiv, Nat.reduceEqDiff, Nat.reduceLeDiff, Nat.reduceLT, Int.reduceEq, Int.reduceNe, Int.reduceLT, Int.reduceLE, Int.reduceAdd, Int.reduceSub, Int.reduceMul, Int.reduceNeg, Int.reduceToNat, reduceCtorEq, reduceIte, if_true, if_false]
      refine fin_cases2 (fun hp => ?_) (fun hp => ?_) <;> simp only [wi i (by omega), j90, b90, q90, qq, ww, List.replicate, Nat.reduceBEq, Nat.reduceAdd, Nat.reduceMul, Nat.reduceDiv, Nat.reduceEqDiff, Nat.reduceLeDiff, Nat.reduceLT, Int.reduceEq, Int.reduceNe, Int.reduceLT, Int.reduceLE, Int.reduceAdd, Int.reduceSub, Int.reduceMul, Int.reduceNeg, Int.reduceToNat, reduceCtorEq, reduceIte, if_true, if_false]
      · rw [hd, ix, hp, if_pos rfl]
      · rw [hd, ix, hp, if_neg (by decide)]
        exact ih hlt _ (by simp only [gcK, lowB, Nat.reduceLeDiff, Nat.reduceBEq, List.contains_nil, List.contains_cons, Bool.or_false, Bool.false_or, Bool.false_eq_true, if_false, Bool.true_and, Bool.and_true, pickL, look_hit, look_miss, look_end, slMent, hpMent, S.ment, S.ment.smt, ments, V.ment, List.append_nil, List.nil_append, List.cons_append, List.all_nil, List.all_cons, Option.isSome_some, Bool.and_self, if_true, reduceIte, Nat.reduceEqDiff, not_false_eq_true, reduceCtorEq, Nat.reduceMul, Nat.reduceAdd])
    · have h1 : decide ((i : Int) < (l.length : Int)) = false := by simp; omega
      simp only [h1, j90, b90, q90, qq, ww, List.replicate, Nat.reduceBEq, Nat.reduceAdd, Nat.reduceMul, Nat.reduceDiv, Nat.reduceEqDiff, Nat.reduceLeDiff, Nat.reduceLT, Int.reduceEq, Int.reduceNe, Int.reduceLT, Int.reduceLE, Int.reduceAdd, Int.reduceSub, Int.reduceMul, Int.reduceNeg, Int.reduceToNat, reduceCtorEq, reduceIte, if_true, if_false]
      rw [List.drop_of_length_le (by omega)]
      rfl
  rfl
theorem e91 (N d : Nat) (y x : It) : TT N (d + 1) 91 [aT y, .one (.ptr (eT x))] = some (bV (decide (x.s ≤ y.s)), []) := by
  rw [t91, F_ev rfl]
  simp only [j91, b91, q91, qq, ww, List.replicate, Nat.reduceBEq, Nat.reduceAdd, Nat.reduceMul, Nat.reduceDiv, Nat.reduceEqDiff, Nat.reduceLeDiff, Nat.reduceLT, Int.reduceEq, Int.reduceNe, Int.reduceLT, Int.reduceLE, Int.reduceAdd, Int.reduceSub, Int.reduceMul, Int.reduceNeg, Int.reduceToNat, reduceCtorEq, reduceIte, if_true, if_false]
  repeat' (refine fin_cases (fun h1 => ?_) (fun h1 => ?_) <;> simp only [h1, j91, b91, q91, qq, ww, List.replicate, Nat.reduceBEq, Nat.reduceAdd, Nat.reduceMul, Nat.reduceDiv, Nat.reduceEqDiff, Nat.reduceLeDiff, Nat.reduceLT, Int.reduceEq, Int.reduceNe, Int.reduceLT, Int.reduceLE, Int.reduceAdd, Int.reduceSub, Int.reduceMul, Int.reduceNeg, Int.reduceToNat, reduceCtorEq, reduceIte, if_true, if_false])
theorem e117 (N d : Nat) (y : It) (want : Int) : TT N (d + 1) 117 [aT y, .one (.ptr [.int .i64 want])] = some (bV (decide (y.s < want)), []) := by
  rw [t117, F_ev rfl]
  simp only [j117, b117, q117, qq, ww, List.replicate, Nat.reduceBEq, Nat.reduceAdd, Nat.reduceMul, Nat.reduceDiv, Nat.reduceEqDiff, Nat.reduceLeDiff, Nat.reduceLT, Int.reduceEq, Int.reduceNe, Int.reduceLT, Int.reduceLE, Int.reduceAdd, Int.reduceSub, Int.reduceMul, Int.reduceNeg, Int.reduceToNat, reduceCtorEq, reduceIte, if_true, if_false]
  repeat' (refine fin_cases (fun h1 => ?_) (fun h1 => ?_) <;> simp only [h1, j117, b117, q117, qq, ww, List.replicate, Nat.reduceBEq, Nat.reduceAdd, Nat.reduceMul, Nat.reduceDiv, Nat.reduceEqDiff, Nat.reduceLeDiff, Nat.reduceLT, Int.reduceEq, Int.reduceNe, Int.reduceLT, Int.reduceLE, Int.reduceAdd, Int.reduceSub, Int.reduceMul, Int.reduceNeg, Int.reduceToNat, reduceCtorEq, reduceIte, if_true, if_false])
abbrev hR (el e : Nat) (xs : List (List V)) : S := .tup [.one (.ref el e 0), .one (.row xs)]
theorem ix_some {α : Type} {p : α → Bool} : ∀ {l : List α} {i : Int}, 0 ≤ i → l.any p = true → ∃ k : Nat, ix p l i = i + k ∧ ∃ (h : k < l.length), p l[k] = true ∧ ∀ j (hj : j < k), p (l[j]'(by omega)) = false
  | [], i, _, h => by cases h
  | x :: r, i, h, ha => by
    unfold ix
    by_cases hp : p x = true
    · exact ⟨0, by simp [hp], by simp, by simpa using hp, fun j hj => by omega⟩
    · rw [if_neg hp]
      have hp' : p x = false := by simpa using hp
      rw [List.any_cons, hp', Bool.false_or] at ha
      obtain ⟨k, h1, h2, h3, h4⟩ := ix_some (l := r) (i := i + 1) (by omega) ha
      refine ⟨k + 1, by rw [h1]; omega, by simp; omega, by simpa using h3, fun j hj => ?_⟩
      cases j with
      | zero => simpa using hp'
      | succ j => simpa using h4 j (by omega)
theorem e116 (N d f : Nat) (ps : List V) (p : It → Bool) (hf : ∀ d x, TT N (d + 1) f [aT x, .one (.ptr ps)] = some (bV (p x), [])) (l : List It) (hN : l.length < N) (hl : l.length < 1000000) :
    TT N (d + 3) 116 [.one (.sl 0 0 l.length), .one (.fn f [.ptr ps]), .tup [hR 29 2 (l.map eT)]] =
      some (.one (if (l.filter fun x => !p x).length = 0 ∧ l ≠ [] then .row [] else .sl 0 0 (l.filter fun x => !p x).length), [(0, .rows 29 2 ((l.filter fun x => !p x).map eT))]) := by
  have h65 := e90 N (d + 1) f ps p (hf d) l hN hl
  rw [t116, F_evo rfl rfl (by simp)]
  cases ha : l.any p with
  | false =>
    have hix : ix p l 0 = -1 := by
      have h9 : ∀ (l : List It) (i : Int), l.any p = false → ix p l i = -1 := by
        intro l
        induction l with
        | nil => intro i _; rfl
        | cons x r ih =>
          intro i h
          rw [List.any_cons, Bool.or_eq_false_iff] at h
          rw [ix, h.1, if_neg (by decide)]
          exact ih _ h.2
      exact h9 l 0 ha
    have hfil : l.filter (fun x => !p x) = l := by
      rw [List.filter_eq_self]
      intro x hx
      have := List.any_eq_false.1 ha x hx
      simpa using this
    simp only [h65, hix, takeT, List.length_map, j116, b116, q116, qq, ww, List.replicate, Nat.reduceBEq, Nat.reduceAdd, Nat.reduceMul, Nat.reduceDiv, Nat.reduceEqDiff, Nat.reduceLeDiff, Nat.reduceLT, Int.reduceEq, Int.reduceNe, Int.reduceLT, Int.reduceLE, Int.reduceAdd, Int.reduceSub, Int.reduceMul, Int.reduceNeg, Int.reduceToNat, reduceCtorEq, reduceIte, if_true, if_false]
    rw [hfil]
    cases l with
    | nil => rfl
    | cons x r => simp
  | true =>
    obtain ⟨k, hix, hk, hpk, hbef⟩ := ix_some (Int.le_refl 0) ha
    rw [Int.zero_add] at hix
    have hne : ((k : Int) = -1) = False := eq_false (by omega)
    have hfk : (l.take (k + 1)).filter (fun x => !p x) = l.take k := by
      rw [take_s hk, List.filter_append]
      have h1 : (l.take k).filter (fun x => !p x) = l.take k := by
        rw [List.filter_eq_self]
        intro x hx
        obtain ⟨j, hj⟩ := List.getElem?_of_mem hx
        rw [List.getElem?_take] at hj
        split at hj
        · rename_i hjk
          rw [List.getElem?_eq_getElem (by omega)] at hj
          cases hj
          have := hbef j hjk
          simpa using this
        · cases hj
      rw [h1]
      simp [hpk]
    simp only [h65, hix, hne, takeT, wi k (by omega), List.length_map, j116, b116, q116, qq, ww, List.replicate, Nat.reduceBEq, Nat.reduceAdd, Nat.reduceMul, Nat.reduceDiv, Nat.reduceEqDiff, Nat.reduceLeDiff, Nat.reduceLT, Int.reduceEq, Int.reduceNe, Int.reduceLT, Int.reduceLE, Int.reduceAdd, Int.reduceSub, Int.reduceMul, Int.reduceNeg, Int.reduceToNat, reduceCtorEq, reduceIte, if_true, if_false]
    refine loopI (K := fun o => finG _ _ (aft _ _ _ o)) (I := fun q s => ∃ (c : List It) (i : Nat), s = ⟨[(0, .one (.sl 0 0 l.length)), (1, .one (.fn f [.ptr ps])), (5, iV i), (6, iV ((k + 1 + q : Nat) : Int))], [(0, .rows 29 2 (c.map eT))]⟩ ∧ c.length = l.length ∧ i ≤ k + q ∧ c.take i = (l.take (k + 1 + q)).filter (fun x => !p x) ∧ ∀ j, k + 1 + q ≤ j → c[j]? = l[j]?) _ (l.length - (k + 1)) ?hr (l.length - (k + 1)) 0 N _ ⟨[(0, .one (.sl 0 0 l.length)), (1, .one (.fn f [.ptr ps])), (5, iV k), (6, iV ((k + 1 : Nat) : Int))], [(0, .rows 29 2 (l.map eT))]⟩ (by omega) (by omega) ?hk ⟨l, k, rfl, rfl, by omega, by rw [Nat.add_zero]; exact hfk.symm, fun j _ => rfl⟩
    case hk => simp only [gcK, lowB, Nat.reduceLeDiff, Nat.reduceBEq, List.contains_nil, List.contains_cons, Bool.or_false, Bool.false_or, Bool.false_eq_true, if_false, Bool.true_and, Bool.and_true, pickL, look_hit, look_miss, look_end, slMent, hpMent, S.ment, S.ment.smt, ments, V.ment, List.append_nil, List.nil_append, List.cons_append, List.all_nil, List.all_cons, Option.isSome_some, Bool.and_self, if_true, reduceIte, Nat.reduceEqDiff, not_false_eq_true, reduceCtorEq, Nat.reduceMul, Nat.reduceAdd]
    case hr =>
      rintro q n s hq ⟨c, i, rfl, hcl, hi, hct, hcj⟩ ih
      (try dsimp only)
      by_cases hlt : k + 1 + q < l.length
      · have h1 : decide (((k + 1 + q : Nat) : Int) < (l.length : Int)) = true := by simp; omega
        have hg1 : (c.map eT)[k + 1 + q]? = some (eT l[k + 1 + q]) := by rw [List.getElem?_map, hcj _ (Nat.le_refl _), List.getElem?_eq_getElem hlt]; rfl
        have hb : 0 ≤ ((k + 1 + q : Nat) : Int) ∧ ((k + 1 + q : Nat) : Int) < (l.length : Int) := by omega
        simp only [h1, hb.1, hb.2, hg1, hf, Nat.zero_add, List.length_map, Int.toNat_natCast, wi (k + 1 + q) (by omega), j116, b116, q116, qq, ww, List.replicate, Nat.reduceBEq, Nat.reduceAdd, Nat.reduceMul, Nat.reduceDiv, Nat.reduceEqDiff, Nat.reduceLeDiff, Nat.reduceLT, Int.reduceEq, Int.reduceNe, Int.reduceLT, Int.reduceLE, Int.reduceAdd, Int.reduceSub, Int.reduceMul, Int.reduceNeg, Int.reduceToNat, reduceCtorEq, reduceIte, if_true, if_false]
        have hil : i < c.length := by omega
        have hg2 : (c.map eT)[i]? = some (eT c[i]) := by rw [List.getElem?_map, List.getElem?_eq_getElem hil]; rfl
        have hbi : 0 ≤ (i : Int) ∧ (i : Int) < (l.length : Int) := by omega
        have htk : (l.take (k + 1 + q + 1)).filter (fun x => !p x) = (l.take (k + 1 + q)).filter (fun x => !p x) ++ (if p l[k + 1 + q] then [] else [l[k + 1 + q]]) := by
          rw [take_s hlt, List.filter_append]
          congr 1
          cases hp : p l[k + 1 + q] <;> simp [hp]
        refine fin_cases2 (fun hp => ?_) (fun hp => ?_) <;> simp only [hbi.1, hbi.2, hg2, Nat.zero_add, List.length_map, Int.toNat_natCast, wi i (by omega), wi (k + 1 + q) (by omega), j116, b116, q116, qq, ww, List.replicate, Nat.reduceBEq, Nat.reduceAdd, Nat.reduceMul, Nat.reduceDiv, Nat.reduceEqDiff, Nat.reduceLeDiff, Nat.reduceLT, Int.reduceEq, Int.reduceNe, Int.reduceLT, Int.reduceLE, Int.reduceAdd, Int.reduceSub, Int.reduceMul, Int.reduceNeg, Int.reduceToNat, reduceCtorEq, reduceIte, if_true, if_false]
        · have hp' : p l[k + 1 + q] = false := by simpa using hp
          refine ih (by omega) _ ⟨[(0, .one (.sl 0 0 l.length)), (1, .one (.fn f [.ptr ps])), (5, iV ((i + 1 : Nat) : Int)), (6, iV ((k + 1 + (q + 1) : Nat) : Int))], [(0, .rows 29 2 ((c.set i l[k + 1 + q]).map eT))]⟩ (by simp only [gcK, lowB, Nat.reduceLeDiff, Nat.reduceBEq, List.contains_nil, List.contains_cons, Bool.or_false, Bool.false_or, Bool.false_eq_true, if_false, Bool.true_and, Bool.and_true, pickL, look_hit, look_miss, look_end, slMent, hpMent, S.ment, S.ment.smt, ments, V.ment, List.append_nil, List.nil_append, List.cons_append, List.all_nil, List.all_cons, Option.isSome_some, Bool.and_self, if_true, reduceIte, Nat.reduceEqDiff, not_false_eq_true, reduceCtorEq, Nat.reduceMul, Nat.reduceAdd, List.map_set]; rfl) ⟨c.set i l[k + 1 + q], i + 1, rfl, by rw [List.length_set]; exact hcl, by omega, ?_, fun j hj => ?_⟩
          · rw [show k + 1 + (q + 1) = k + 1 + q + 1 by omega, htk, hp', if_neg (by decide), ← hct, take_s (by rw [List.length_set]; exact hil), List.getElem_set_self, List.take_set_of_le (Nat.le_refl i)]
          · rw [List.getElem?_set_ne (by omega)]
            exact hcj j (by omega)
        · have hp' : p l[k + 1 + q] = true := by simpa using hp
          refine ih (by omega) _ ⟨[(0, .one (.sl 0 0 l.length)), (1, .one (.fn f [.ptr ps])), (5, iV i), (6, iV ((k + 1 + (q + 1) : Nat) : Int))], [(0, .rows 29 2 (c.map eT))]⟩ (by simp only [gcK, lowB, Nat.reduceLeDiff, Nat.reduceBEq, List.contains_nil, List.contains_cons, Bool.or_false, Bool.false_or, Bool.false_eq_true, if_false, Bool.true_and, Bool.and_true, pickL, look_hit, look_miss, look_end, slMent, hpMent, S.ment, S.ment.smt, ments, V.ment, List.append_nil, List.nil_append, List.cons_append, List.all_nil, List.all_cons, Option.isSome_some, Bool.and_self, if_true, reduceIte, Nat.reduceEqDiff, not_false_eq_true, reduceCtorEq, Nat.reduceMul, Nat.reduceAdd]; rfl) ⟨c, i, rfl, hcl, by omega, ?_, fun j hj => hcj j (by omega)⟩
          rw [show k + 1 + (q + 1) = k + 1 + q + 1 by omega, htk, hp', if_pos rfl, List.append_nil]
          exact hct
      · have h1 : decide (((k + 1 + q : Nat) : Int) < (l.length : Int)) = false := by simp; omega
        have hq' : k + 1 + q = l.length := by omega
        have hil : i < l.length := by omega
        have hbi : 0 ≤ (i : Int) ∧ (i : Int) ≤ (l.length : Int) := by omega
        have hne2 : ((i : Int) = (l.length : Int)) = False := eq_false (by omega)
        have hsum : i + (l.length - i) = l.length := by omega
        have hcm : (c.map eT).take i = ((l.filter fun x => !p x)).map eT := by rw [← List.map_take, hct, hq', List.take_length]
        have hfl : (l.filter fun x => !p x).length = i := by
          have := congrArg List.length hcm
          simp only [List.length_take, List.length_map] at this
          omega
        have hlne : l ≠ [] := fun e => by rw [e] at hil; simp at hil
        simp only [h1, hbi.1, hbi.2, hne2, hcl, hsum, hcm, Nat.zero_add, Int.toNat_natCast, List.length_map, j116, b116, q116, qq, ww, List.replicate, Nat.reduceBEq, Nat.reduceAdd, Nat.reduceMul, Nat.reduceDiv, Nat.reduceEqDiff, Nat.reduceLeDiff, Nat.reduceLT, Int.reduceEq, Int.reduceNe, Int.reduceLT, Int.reduceLE, Int.reduceAdd, Int.reduceSub, Int.reduceMul, Int.reduceNeg, Int.reduceToNat, reduceCtorEq, reduceIte, if_true, if_false]
        by_cases h0 : i = 0
        · have hz : ((0 : Int) = (i : Int)) = True := eq_true (by omega)
          have hfl' : (l.filter fun x => !p x).length = 0 := by omega
          have hnil : l.filter (fun x => !p x) = [] := List.eq_nil_of_length_eq_zero hfl'
          simp only [hz, hnil, j116, b116, q116, qq, ww, List.replicate, Nat.reduceBEq, Nat.reduceAdd, Nat.reduceMul, Nat.reduceDiv, Nat.reduceEqDiff, Nat.reduceLeDiff, Nat.reduceLT, Int.reduceEq, Int.reduceNe, Int.reduceLT, Int.reduceLE, Int.reduceAdd, Int.reduceSub, Int.reduceMul, Int.reduceNeg, Int.reduceToNat, reduceCtorEq, reduceIte, if_true, if_false]
          simp [hlne]
        · have hz : ((0 : Int) = (i : Int)) = False := eq_false (by omega)
          simp only [hz, j116, b116, q116, qq, ww, List.replicate, Nat.reduceBEq, Nat.reduceAdd, Nat.reduceMul, Nat.reduceDiv, Nat.reduceEqDiff, Nat.reduceLeDiff, Nat.reduceLT, Int.reduceEq, Int.reduceNe, Int.reduceLT, Int.reduceLE, Int.reduceAdd, Int.reduceSub, Int.reduceMul, Int.reduceNeg, Int.reduceToNat, reduceCtorEq, reduceIte, if_true, if_false]
          rw [if_neg (fun h => h0 (by omega)), hfl]
          simp
end Go.Proofs.YtkfcbpbnoeaheaaGreatDoor.AA
namespace Go.Proofs.YtkfcbpbnoeaheaaGreatDoor.AA
open Go Go.Proofs.YtkfcbpbnoeaheaaGreatDoorR IG
set_option maxRecDepth 100000
set_option maxHeartbeats 4000000
def pre (c : It → Int → Bool) : List It → Nat → Nat
  | [], _ => 0
  | y :: r, k => if c y k then pre c r (k + 1) + 1 else 0
theorem pre_le (c : It → Int → Bool) : ∀ (l : List It) (k : Nat), pre c l k ≤ l.length
  | [], k => Nat.le_refl _
  | y :: r, k => by
    have := pre_le c r (k + 1)
    unfold pre
    split <;> simp <;> omega
def cP (want : Int) (y : It) (k : Int) : Bool := decide (IntKind.i64.wrap (y.s - want) = k)
def leftL (want : Int) (l : List It) : List It := l.filter fun x => decide (want ≤ x.s)
theorem e85f (N d : Nat) (xs : List (List V)) (h : xs.all (fun x => x.length == 2) = true) (hl : xs.length < 1000000) : TT N (d + 1) 85 [.one (.row xs)] = some (.one (.sl 0 0 xs.length), [(0, .rows 29 2 xs)]) := by
  have hb : xs.length * 16 ≤ 140737488355328 := by omega
  rw [t85]
  simp only [cloneM, h, hb, qq, ww, List.replicate, Nat.reduceBEq, Nat.reduceAdd, Nat.reduceMul, Nat.reduceDiv, Nat.reduceEqDiff, Nat.reduceLeDiff, Nat.reduceLT, Int.reduceEq, Int.reduceNe, Int.reduceLT, Int.reduceLE, Int.reduceAdd, Int.reduceSub, Int.reduceMul, Int.reduceNeg, Int.reduceToNat, reduceCtorEq, reduceIte, if_true, if_false]
theorem selfT (l : List It) : (l.map eT).all selfs = true := by simp [selfs, V.self]
theorem e88 (N d : Nat) (l : List It) (want : Int) (hN : l.length < N) (hl : l.length < 1000000) : ans (TT N (d + 4) 88 [.one (rT l), iV want]) =
    some (.tup [.one (rT ((leftL want l).take (pre (cP want) (leftL want l) 0))), .one (rT ((leftL want l).drop (pre (cP want) (leftL want l) 0)))]) := by
  have h69 := fun d => e85 N d l hl
  have hleft : (l.filter fun x => !decide (x.s < want)) = leftL want l := by
    unfold leftL
    congr 1
    funext x
    by_cases h : x.s < want
    · have h2 : ¬ want ≤ x.s := by omega
      simp [h, h2]
    · have h2 : want ≤ x.s := by omega
      simp [h, h2]
  have h71 := e116 N d 117 [.int .i64 want] (fun x => decide (x.s < want)) (fun d x => e117 N d x want) l hN hl
  rw [hleft] at h71
  have hlen : (leftL want l).length ≤ l.length := List.length_filter_le _ _
  generalize hL : leftL want l = L at *
  rw [t88, F_ev rfl]
  by_cases hc : L.length = 0 ∧ l ≠ []
  · rw [if_pos hc] at h71
    have hnil : L = [] := List.eq_nil_of_length_eq_zero hc.1
    subst hnil
    simp only [h69, h71, List.length_map, j88, b88, q88, qq, ww, List.replicate, Nat.reduceBEq, Nat.reduceAdd, Nat.reduceMul, Nat.reduceDiv, Nat.reduceEqDiff, Nat.reduceLeDiff, Nat.reduceLT, Int.reduceEq, Int.reduceNe, Int.reduceLT, Int.reduceLE, Int.reduceAdd, Int.reduceSub, Int.reduceMul, Int.reduceNeg, Int.reduceToNat, reduceCtorEq, reduceIte, if_true, if_false]
    refine (loopK (K := fun o => ans (fin _ (aft _ _ _ o))) (fun i => ⟨[(0, .one (.row [])), (3, .one (.ptr [.int .i64 want])), (6, iV i)], []⟩) (fun i => some (.tup [.one (.row []), .one (.row [])])) 0 ?hr 0 0 N _ (by omega) (by omega) ?hk).trans ?_
    case hk => simp only [gcK, lowB, Nat.reduceLeDiff, Nat.reduceBEq, List.contains_nil, List.contains_cons, Bool.or_false, Bool.false_or, Bool.false_eq_true, if_false, Bool.true_and, Bool.and_true, pickL, look_hit, look_miss, look_end, slMent, hpMent, S.ment, S.ment.smt, ments, V.ment, List.append_nil, List.nil_append, List.cons_append, List.all_nil, List.all_cons, Option.isSome_some, Bool.and_self, if_true, reduceIte, Nat.reduceEqDiff, not_false_eq_true, reduceCtorEq, Nat.reduceMul, Nat.reduceAdd]; rfl
    case hr =>
      intro i n hi ih
      obtain rfl : i = 0 := by omega
      have h1 : decide ((0 : Int) < 0) = false := rfl
      have h69b := fun d => e85f N d [] rfl (by simp)
      simp only [h1, h69b, j88, b88, q88, qq, ww, List.replicate, Nat.reduceBEq, Nat.reduceAdd, Nat.reduceMul, Nat.reduceDiv, Nat.reduceEqDiff, Nat.reduceLeDiff, Nat.reduceLT, Int.reduceEq, Int.reduceNe, Int.reduceLT, Int.reduceLE, Int.reduceAdd, Int.reduceSub, Int.reduceMul, Int.reduceNeg, Int.reduceToNat, reduceCtorEq, reduceIte, if_true, if_false]
    simp
  · rw [if_neg hc] at h71
    simp only [h69, h71, List.length_map, j88, b88, q88, qq, ww, List.replicate, Nat.reduceBEq, Nat.reduceAdd, Nat.reduceMul, Nat.reduceDiv, Nat.reduceEqDiff, Nat.reduceLeDiff, Nat.reduceLT, Int.reduceEq, Int.reduceNe, Int.reduceLT, Int.reduceLE, Int.reduceAdd, Int.reduceSub, Int.reduceMul, Int.reduceNeg, Int.reduceToNat, reduceCtorEq, reduceIte, if_true, if_false]
    refine (loopK (K := fun o => ans (fin _ (aft _ _ _ o))) (fun i => ⟨[(0, .one (.sl 512 0 L.length)), (3, .one (.ptr [.int .i64 want])), (6, iV i)], [(512, .rows 29 2 (L.map eT))]⟩) (fun i => some (.tup [.one (rT (L.take (i + pre (cP want) (L.drop i) i))), .one (rT (L.drop (i + pre (cP want) (L.drop i) i)))])) L.length ?hr L.length 0 N _ (by omega) (by omega) ?hk).trans ?_
    case hk => simp only [gcK, lowB, Nat.reduceLeDiff, Nat.reduceBEq, List.contains_nil, List.contains_cons, Bool.or_false, Bool.false_or, Bool.false_eq_true, if_false, Bool.true_and, Bool.and_true, pickL, look_hit, look_miss, look_end, slMent, hpMent, S.ment, S.ment.smt, ments, V.ment, List.append_nil, List.nil_append, List.cons_append, List.all_nil, List.all_cons, Option.isSome_some, Bool.and_self, if_true, reduceIte, Nat.reduceEqDiff, not_false_eq_true, reduceCtorEq, Nat.reduceMul, Nat.reduceAdd]; rfl
    case hr =>
      intro i n hi ih
      (try dsimp only)
      have hli : i < 1000000 := by omega
      have hexit : TT N (d + 3) 85 [.one (.row ((L.map eT).take i))] = some (.one (.sl 0 0 ((L.map eT).take i).length), [(0, .rows 29 2 ((L.map eT).take i))]) ∧ TT N (d + 3) 85 [.one (.row ((L.map eT).drop i))] = some (.one (.sl 0 0 ((L.map eT).drop i).length), [(0, .rows 29 2 ((L.map eT).drop i))]) :=
        ⟨e85f N (d + 2) _ (by rw [← List.map_take]; exact allT _) (by rw [← List.map_take, List.length_map, List.length_take]; omega), e85f N (d + 2) _ (by rw [← List.map_drop]; exact allT _) (by rw [← List.map_drop, List.length_map, List.length_drop]; omega)⟩
      have hs1 : ((L.map eT).take i).all selfs = true := by rw [← List.map_take]; exact selfT _
      have hs2 : ((L.map eT).drop i).all selfs = true := by rw [← List.map_drop]; exact selfT _
      by_cases hlt : i < L.length
      · have h1 : decide ((i : Int) < (L.length : Int)) = true := by simp; omega
        have hget : (L.map eT)[i]? = some (eT L[i]) := by simp [hlt]
        have hd : L.drop i = L[i] :: L.drop (i + 1) := by simp
        have hb : 0 ≤ (i : Int) ∧ (i : Int) < (L.length : Int) := by omega
        simp only [h1, hb.1, hb.2, hget, Nat.zero_add, List.length_map, Int.toNat_natCast, j88, b88, q88, qq, ww, List.replicate, Nat.reduceBEq, Nat.reduceAdd, Nat.reduceMul, Nat.reduceDiv, Nat.reduceEqDiff, Nat.reduceLeDiff, Nat.reduceLT, Int.reduceEq, Int.reduceNe, Int.reduceLT, Int.reduceLE, Int.reduceAdd, Int.reduceSub, Int.reduceMul, Int.reduceNeg, Int.reduceToNat, reduceCtorEq, reduceIte, if_true, if_false]
        refine an_cases2 (fun hp => ?_) (fun hp => ?_)
        · have hpre : i + pre (cP want) (L.drop i) i = (i + 1) + pre (cP want) (L.drop (i + 1)) (i + 1) := by
            rw [hd, pre, if_pos (show cP want L[i] i = true from hp)]
            omega
          rw [hpre]
          simp only [wi i (by omega), j88, b88, q88, qq, ww, List.replicate, Nat.reduceBEq, Nat.reduceAdd, Nat.reduceMul, Nat.reduceDiv, Nat.reduceEqDiff, Nat.reduceLeDiff, Nat.reduceLT, Int.reduceEq, Int.reduceNe, Int.reduceLT, Int.reduceLE, Int.reduceAdd, Int.reduceSub, Int.reduceMul, Int.reduceNeg, Int.reduceToNat, reduceCtorEq, reduceIte, if_true, if_false]
          exact ih hlt _ (by simp only [gcK, lowB, Nat.reduceLeDiff, Nat.reduceBEq, List.contains_nil, List.contains_cons, Bool.or_false, Bool.false_or, Bool.false_eq_true, if_false, Bool.true_and, Bool.and_true, pickL, look_hit, look_miss, look_end, slMent, hpMent, S.ment, S.ment.smt, ments, V.ment, List.append_nil, List.nil_append, List.cons_append, List.all_nil, List.all_cons, Option.isSome_some, Bool.and_self, if_true, reduceIte, Nat.reduceEqDiff, not_false_eq_true, reduceCtorEq, Nat.reduceMul, Nat.reduceAdd])
        · have hpre : i + pre (cP want) (L.drop i) i = i := by
            rw [hd, pre, if_neg (by rw [show cP want L[i] i = false from hp]; decide)]
            rfl
          rw [hpre]
          have hc1 : 0 ≤ (i : Int) := by omega
          have hc2 : (i : Int) ≤ (L.length : Int) := by omega
          have hle : i ≤ L.length := hi
          have hlen2 : i + (L.length - i) = L.length := by omega
          have hsum : i + (L.length - i) ≤ L.length := by omega
          have h69b := fun d => e85f N d [] rfl (by simp)
          have htd : ((L.map eT).drop i).take (L.length - i) = (L.map eT).drop i := by rw [List.take_of_length_le (by simp)]
          by_cases h0 : i = 0
          · have hz : ((0 : Int) = (i : Int)) = True := eq_true (by omega)
            by_cases hL0 : i = L.length
            · have hw : ((i : Int) = (L.length : Int)) = True := eq_true (by omega)
              simp only [hc1, hc2, hz, hw, hle, hlen2, hsum, hexit.1, hexit.2, hs1, hs2, h69b, List.take_length, Nat.sub_zero, Nat.zero_add, List.length_map, Int.toNat_natCast, htd, j88, b88, q88, qq, ww, List.replicate, Nat.reduceBEq, Nat.reduceAdd, Nat.reduceMul, Nat.reduceDiv, Nat.reduceEqDiff, Nat.reduceLeDiff, Nat.reduceLT, Int.reduceEq, Int.reduceNe, Int.reduceLT, Int.reduceLE, Int.reduceAdd, Int.reduceSub, Int.reduceMul, Int.reduceNeg, Int.reduceToNat, reduceCtorEq, reduceIte, if_true, if_false]
              (try simp [h0, hL0, List.map_take, List.map_drop]); all_goals (first | exact List.eq_nil_of_length_eq_zero (by omega) | exact takeT L)
            · have hw : ((i : Int) = (L.length : Int)) = False := eq_false (by omega)
              simp only [hc1, hc2, hz, hw, hle, hlen2, hsum, hexit.1, hexit.2, hs1, hs2, h69b, List.take_length, Nat.sub_zero, Nat.zero_add, List.length_map, Int.toNat_natCast, htd, j88, b88, q88, qq, ww, List.replicate, Nat.reduceBEq, Nat.reduceAdd, Nat.reduceMul, Nat.reduceDiv, Nat.reduceEqDiff, Nat.reduceLeDiff, Nat.reduceLT, Int.reduceEq, Int.reduceNe, Int.reduceLT, Int.reduceLE, Int.reduceAdd, Int.reduceSub, Int.reduceMul, Int.reduceNeg, Int.reduceToNat, reduceCtorEq, reduceIte, if_true, if_false]
              (try simp [h0, hL0, List.map_take, List.map_drop]); all_goals (first | exact List.eq_nil_of_length_eq_zero (by omega) | exact takeT L)
          · have hz : ((0 : Int) = (i : Int)) = False := eq_false (by omega)
            by_cases hL0 : i = L.length
            · have hw : ((i : Int) = (L.length : Int)) = True := eq_true (by omega)
              simp only [hc1, hc2, hz, hw, hle, hlen2, hsum, hexit.1, hexit.2, hs1, hs2, h69b, List.take_length, Nat.sub_zero, Nat.zero_add, List.length_map, Int.toNat_natCast, htd, j88, b88, q88, qq, ww, List.replicate, Nat.reduceBEq, Nat.reduceAdd, Nat.reduceMul, Nat.reduceDiv, Nat.reduceEqDiff, Nat.reduceLeDiff, Nat.reduceLT, Int.reduceEq, Int.reduceNe, Int.reduceLT, Int.reduceLE, Int.reduceAdd, Int.reduceSub, Int.reduceMul, Int.reduceNeg, Int.reduceToNat, reduceCtorEq, reduceIte, if_true, if_false]
              (try simp [h0, hL0, List.map_take, List.map_drop]); all_goals (first | exact List.eq_nil_of_length_eq_zero (by omega) | exact takeT L)
            · have hw : ((i : Int) = (L.length : Int)) = False := eq_false (by omega)
              simp only [hc1, hc2, hz, hw, hle, hlen2, hsum, hexit.1, hexit.2, hs1, hs2, h69b, List.take_length, Nat.sub_zero, Nat.zero_add, List.length_map, Int.toNat_natCast, htd, j88, b88, q88, qq, ww, List.replicate, Nat.reduceBEq, Nat.reduceAdd, Nat.reduceMul, Nat.reduceDiv, Nat.reduceEqDiff, Nat.reduceLeDiff, Nat.reduceLT, Int.reduceEq, Int.reduceNe, Int.reduceLT, Int.reduceLE, Int.reduceAdd, Int.reduceSub, Int.reduceMul, Int.reduceNeg, Int.reduceToNat, reduceCtorEq, reduceIte, if_true, if_false]
              (try simp [h0, hL0, List.map_take, List.map_drop]); all_goals (first | exact List.eq_nil_of_length_eq_zero (by omega) | exact takeT L)
      · have h1 : decide ((i : Int) < (L.length : Int)) = false := by simp; omega
        have hpre : i + pre (cP want) (L.drop i) i = i := by rw [List.drop_of_length_le (by omega)]; rfl
        rw [hpre]
        have hc1 : 0 ≤ (i : Int) := by omega
        have hc2 : (i : Int) ≤ (L.length : Int) := by omega
        have hle : i ≤ L.length := hi
        have hlen2 : i + (L.length - i) = L.length := by omega
        have hsum : i + (L.length - i) ≤ L.length := by omega
        have h69b := fun d => e85f N d [] rfl (by simp)
        have htd : ((L.map eT).drop i).take (L.length - i) = (L.map eT).drop i := by rw [List.take_of_length_le (by simp)]
        by_cases h0 : i = 0
        · have hz : ((0 : Int) = (i : Int)) = True := eq_true (by omega)
          by_cases hL0 : i = L.length
          · have hw : ((i : Int) = (L.length : Int)) = True := eq_true (by omega)
            simp only [h1, hc1, hc2, hz, hw, hle, hlen2, hsum, hexit.1, hexit.2, hs1, hs2, h69b, List.take_length, Nat.sub_zero, Nat.zero_add, List.length_map, Int.toNat_natCast, htd, j88, b88, q88, qq, ww, List.replicate, Nat.reduceBEq, Nat.reduceAdd, Nat.reduceMul, Nat.reduceDiv, Nat.reduceEqDiff, Nat.reduceLeDiff, Nat.reduceLT, Int.reduceEq, Int.reduceNe, Int.reduceLT, Int.reduceLE, Int.reduceAdd, Int.reduceSub, Int.reduceMul, Int.reduceNeg, Int.reduceToNat, reduceCtorEq, reduceIte, if_true, if_false]
            (try simp [h0, hL0, List.map_take, List.map_drop]); all_goals (first | exact List.eq_nil_of_length_eq_zero (by omega) | exact takeT L)
          · have hw : ((i : Int) = (L.length : Int)) = False := eq_false (by omega)
            simp only [h1, hc1, hc2, hz, hw, hle, hlen2, hsum, hexit.1, hexit.2, hs1, hs2, h69b, List.take_length, Nat.sub_zero, Nat.zero_add, List.length_map, Int.toNat_natCast, htd, j88, b88, q88, qq, ww, List.replicate, Nat.reduceBEq, Nat.reduceAdd, Nat.reduceMul, Nat.reduceDiv, Nat.reduceEqDiff, Nat.reduceLeDiff, Nat.reduceLT, Int.reduceEq, Int.reduceNe, Int.reduceLT, Int.reduceLE, Int.reduceAdd, Int.reduceSub, Int.reduceMul, Int.reduceNeg, Int.reduceToNat, reduceCtorEq, reduceIte, if_true, if_false]
            (try simp [h0, hL0, List.map_take, List.map_drop]); all_goals (first | exact List.eq_nil_of_length_eq_zero (by omega) | exact takeT L)
        · have hz : ((0 : Int) = (i : Int)) = False := eq_false (by omega)
          by_cases hL0 : i = L.length
          · have hw : ((i : Int) = (L.length : Int)) = True := eq_true (by omega)
            simp only [h1, hc1, hc2, hz, hw, hle, hlen2, hsum, hexit.1, hexit.2, hs1, hs2, h69b, List.take_length, Nat.sub_zero, Nat.zero_add, List.length_map, Int.toNat_natCast, htd, j88, b88, q88, qq, ww, List.replicate, Nat.reduceBEq, Nat.reduceAdd, Nat.reduceMul, Nat.reduceDiv, Nat.reduceEqDiff, Nat.reduceLeDiff, Nat.reduceLT, Int.reduceEq, Int.reduceNe, Int.reduceLT, Int.reduceLE, Int.reduceAdd, Int.reduceSub, Int.reduceMul, Int.reduceNeg, Int.reduceToNat, reduceCtorEq, reduceIte, if_true, if_false]
            (try simp [h0, hL0, List.map_take, List.map_drop]); all_goals (first | exact List.eq_nil_of_length_eq_zero (by omega) | exact takeT L)
          · have hw : ((i : Int) = (L.length : Int)) = False := eq_false (by omega)
            simp only [h1, hc1, hc2, hz, hw, hle, hlen2, hsum, hexit.1, hexit.2, hs1, hs2, h69b, List.take_length, Nat.sub_zero, Nat.zero_add, List.length_map, Int.toNat_natCast, htd, j88, b88, q88, qq, ww, List.replicate, Nat.reduceBEq, Nat.reduceAdd, Nat.reduceMul, Nat.reduceDiv, Nat.reduceEqDiff, Nat.reduceLeDiff, Nat.reduceLT, Int.reduceEq, Int.reduceNe, Int.reduceLT, Int.reduceLE, Int.reduceAdd, Int.reduceSub, Int.reduceMul, Int.reduceNeg, Int.reduceToNat, reduceCtorEq, reduceIte, if_true, if_false]
            (try simp [h0, hL0, List.map_take, List.map_drop]); all_goals (first | exact List.eq_nil_of_length_eq_zero (by omega) | exact takeT L)
    simp
end Go.Proofs.YtkfcbpbnoeaheaaGreatDoor.AA
namespace Go.Proofs.YtkfcbpbnoeaheaaGreatDoor.AA
open Go Go.Proofs.YtkfcbpbnoeaheaaGreatDoorR IG
set_option maxRecDepth 100000
set_option maxHeartbeats 4000000
theorem all2 (l : List It) : (l.map eT).all (fun x => x.length == 2) = true := by simp
theorem left_s {want : Int} {l : List It} {i : Nat} (h : i < l.length) : leftL want (l.take (i + 1)) = leftL want (l.take i) ++ (if want ≤ l[i].s then [l[i]] else []) := by
  unfold leftL
  rw [take_s h, List.filter_append]
  congr 1
  by_cases hw : want ≤ l[i].s <;> simp [hw]
end Go.Proofs.YtkfcbpbnoeaheaaGreatDoor.AA
namespace Go.Proofs.YtkfcbpbnoeaheaaGreatDoor.AA
open Go Go.Proofs.YtkfcbpbnoeaheaaGreatDoorR IG
set_option maxRecDepth 100000
set_option maxHeartbeats 4000000
end Go.Proofs.YtkfcbpbnoeaheaaGreatDoor.AA
namespace Go.Proofs.YtkfcbpbnoeaheaaGreatDoor.AA
open Go Go.Proofs.YtkfcbpbnoeaheaaGreatDoorR IG
set_option maxRecDepth 100000
set_option maxHeartbeats 4000000
theorem e93 (N d : Nat) (l : List It) (x : It) (k : Nat) (hk : k ≤ l.length) (hl : l.length < 1000000) : TT N (d + 1) 93 [.one (.sl 0 0 l.length), iV k, .one (.sl 1 0 1), .tup [hR 29 2 (l.map eT), hR 29 2 [eT x]]] =
    some (.one (.sl 0 0 (l.length + 1)), [(0, .rows 29 2 ((l.take k ++ [x] ++ l.drop k).map eT)), (1, .rows 29 2 [eT x])]) := by
  rw [t93]
  show (if _ then _ else _) = _
  rw [if_pos ⟨⟨rfl, rfl, rfl, rfl⟩, by simp, by omega, by omega, all2 l, rfl, by omega⟩]
  simp [List.map_take, List.map_drop]
def ins (x : It) : List It → Option (List It)
  | [] => some [x]
  | y :: r => if x.s ≤ y.s then (if y.s = x.s then none else some (x :: y :: r)) else (ins x r).map (y :: ·)
def addA (l : List It) (want win : Int) (x : It) : List It × Int :=
  if !(ahOK l want win && inB x.v 0 2147483647) then ([], 1) else if !fitsB x.s want win then ([], 6) else match ins x l with
  | none => ([], 8)
  | some m => (m, 0)
theorem ins_ix {x : It} : ∀ {l : List It} {k : Nat}, k < l.length → (∀ j (hj : j < l.length), j < k → ¬ x.s ≤ l[j].s) → (h : k < l.length) → x.s ≤ l[k].s → ins x l = if l[k].s = x.s then none else some (l.take k ++ [x] ++ l.drop k)
  | [], k, hk, _, _, _ => by simp at hk
  | y :: r, 0, _, _, _, h => by
    simp at h
    simp [ins, h]
  | y :: r, k + 1, hk, hb, h1, h => by
    have h0 := hb 0 (by simp) (by omega)
    simp at h0
    unfold ins
    rw [if_neg (by omega), ins_ix (l := r) (k := k) (by simpa using hk) (fun j hj hjk => hb (j + 1) (by simp; omega) (by omega)) (by simpa using hk) (by simpa using h)]
    simp only [List.getElem_cons_succ]
    split <;> simp
theorem ins_end {x : It} : ∀ {l : List It}, (l.any fun y => decide (x.s ≤ y.s)) = false → ins x l = some (l ++ [x])
  | [], _ => rfl
  | y :: r, h => by
    rw [List.any_cons, Bool.or_eq_false_iff] at h
    have h1 : ¬ x.s ≤ y.s := by simpa using h.1
    unfold ins
    rw [if_neg h1, ins_end h.2]
    rfl
theorem e54 (N d : Nat) (l : List It) (want win : Int) (x : It) (hN : l.length < N) (hl : l.length < 100000) : ans (TT N (d + 4) 54 [.one (rT l), iV want, iV win, aT x]) = some (.tup [.one (rT (addA l want win x).1), iV (addA l want win x).2]) := by
  have h42 := e89 N d l want win hN (by omega)
  have h65 := e90 N (d + 2) 91 (eT x) (fun y => decide (x.s ≤ y.s)) (fun y => e91 N (d + 1) y x) l hN (by omega)
  have h69 := fun d => e85 N d l (by omega)
  have hb8 : (l.length + 1) * 16 ≤ 140737488355328 := by omega
  rw [t54, F_ev rfl]
  cases hA : ahOK l want win with
  | false =>
    rw [hA] at h42
    simp only [h42, h65, h69, e51, List.length_map, j54, b54, q54, qq, ww, List.replicate, Nat.reduceBEq, Nat.reduceAdd, Nat.reduceMul, Nat.reduceDiv, Nat.reduceEqDiff, Nat.reduceLeDiff, Nat.reduceLT, Int.reduceEq, Int.reduceNe, Int.reduceLT, Int.reduceLE, Int.reduceAdd, Int.reduceSub, Int.reduceMul, Int.reduceNeg, Int.reduceToNat, reduceCtorEq, reduceIte, if_true, if_false]
    simp [addA, hA]
  | true =>
  rw [hA] at h42
  have hw : 1 ≤ want ∧ want ≤ 1073741824 ∧ 1 ≤ win ∧ win ≤ 16 := by simp [ahOK, inB] at hA; omega
  have hww : IntKind.i64.wrap (want + win) = want + win := IntWalk.i64_in _ (by omega)
  have h68 := fun d s => e92 N d s want win hww
  cases hV : inB x.v 0 2147483647 with
  | false =>
    simp only [h42, h65, h69, e51, hV, List.length_map, j54, b54, q54, qq, ww, List.replicate, Nat.reduceBEq, Nat.reduceAdd, Nat.reduceMul, Nat.reduceDiv, Nat.reduceEqDiff, Nat.reduceLeDiff, Nat.reduceLT, Int.reduceEq, Int.reduceNe, Int.reduceLT, Int.reduceLE, Int.reduceAdd, Int.reduceSub, Int.reduceMul, Int.reduceNeg, Int.reduceToNat, reduceCtorEq, reduceIte, if_true, if_false]
    simp [addA, hA, hV]
  | true =>
  cases hF : fitsB x.s want win with
  | false =>
    simp only [h42, h65, h69, e51, hV, h68, hF, List.length_map, j54, b54, q54, qq, ww, List.replicate, Nat.reduceBEq, Nat.reduceAdd, Nat.reduceMul, Nat.reduceDiv, Nat.reduceEqDiff, Nat.reduceLeDiff, Nat.reduceLT, Int.reduceEq, Int.reduceNe, Int.reduceLT, Int.reduceLE, Int.reduceAdd, Int.reduceSub, Int.reduceMul, Int.reduceNeg, Int.reduceToNat, reduceCtorEq, reduceIte, if_true, if_false]
    simp [addA, hA, hV, hF]
  | true =>
  have hadd : addA l want win x = match ins x l with | none => ([], 8) | some m => (m, 0) := by simp [addA, hA, hV, hF]
  rw [hadd]
  cases hany : (l.any fun y => decide (x.s ≤ y.s)) with
  | false =>
    have hix : ix (fun y => decide (x.s ≤ y.s)) l 0 = -1 := by
      have h9 : ∀ (l : List It) (i : Int), (l.any fun y => decide (x.s ≤ y.s)) = false → ix (fun y => decide (x.s ≤ y.s)) l i = -1 := by
        intro l
        induction l with
        | nil => intro i _; rfl
        | cons y r ih =>
          intro i h
          rw [List.any_cons, Bool.or_eq_false_iff] at h
          rw [ix, h.1, if_neg (by decide)]
          exact ih _ h.2
      exact h9 l 0 hany
    have hneg : decide ((-1 : Int) < 0) = true := rfl
    rw [ins_end hany]
    rw [hix] at h65
    simp only [h42, h65, h69, e51, hV, h68, hF, hneg, hb8, takeT, all2, List.length_map, j54, b54, q54, qq, ww, List.replicate, Nat.reduceBEq, Nat.reduceAdd, Nat.reduceMul, Nat.reduceDiv, Nat.reduceEqDiff, Nat.reduceLeDiff, Nat.reduceLT, Int.reduceEq, Int.reduceNe, Int.reduceLT, Int.reduceLE, Int.reduceAdd, Int.reduceSub, Int.reduceMul, Int.reduceNeg, Int.reduceToNat, reduceCtorEq, reduceIte, if_true, if_false]
    simp
    rw [List.take_of_length_le (by simp), List.take_of_length_le (by simp)]
  | true =>
    obtain ⟨k, hix, hk, hpk, hbef⟩ := ix_some (Int.le_refl 0) hany
    rw [Int.zero_add] at hix
    rw [hix] at h65
    have hneg : decide ((k : Int) < 0) = false := by simp
    have hb : 0 ≤ (k : Int) ∧ (k : Int) < (l.length : Int) := by omega
    have hg : (l.map eT)[k]? = some (eT l[k]) := by simp [hk]
    have hxk : x.s ≤ l[k].s := by simpa using hpk
    rw [ins_ix hk (fun j hj hjk => by simpa using hbef j hjk) hk hxk]
    have h70 := fun d => e93 N d l x k (by omega) (by omega)
    cases hq : decide (l[k].s = x.s) with
    | true =>
      have hq' : l[k].s = x.s := by simpa using hq
      rw [if_pos hq']
      simp only [h42, h65, h69, e51, hV, h68, hF, hneg, hb.1, hb.2, hg, hq, List.length_map, Int.toNat_natCast, j54, b54, q54, qq, ww, List.replicate, Nat.reduceBEq, Nat.reduceAdd, Nat.reduceMul, Nat.reduceDiv, Nat.reduceEqDiff, Nat.reduceLeDiff, Nat.reduceLT, Int.reduceEq, Int.reduceNe, Int.reduceLT, Int.reduceLE, Int.reduceAdd, Int.reduceSub, Int.reduceMul, Int.reduceNeg, Int.reduceToNat, reduceCtorEq, reduceIte, if_true, if_false]
      rfl
    | false =>
      have hq' : ¬ l[k].s = x.s := by simpa using hq
      rw [if_neg hq']
      have hlk : (List.take k l).length + 1 + (List.drop k l).length = l.length + 1 := by rw [List.length_take, List.length_drop]; omega
      have htk : List.take (l.length + 1) (List.map eT (List.take k l) ++ [eT x] ++ List.map eT (List.drop k l)) = List.map eT (List.take k l) ++ [eT x] ++ List.map eT (List.drop k l) := List.take_of_length_le (by simp; omega)
      simp only [h42, h65, h69, e51, hV, h68, hF, hneg, hb.1, hb.2, hg, hq, h70, hlk, htk, List.length_map, Int.toNat_natCast, j54, b54, q54, qq, ww, List.replicate, Nat.reduceBEq, Nat.reduceAdd, Nat.reduceMul, Nat.reduceDiv, Nat.reduceEqDiff, Nat.reduceLeDiff, Nat.reduceLT, Int.reduceEq, Int.reduceNe, Int.reduceLT, Int.reduceLE, Int.reduceAdd, Int.reduceSub, Int.reduceMul, Int.reduceNeg, Int.reduceToNat, reduceCtorEq, reduceIte, if_true, if_false]
      simp
end Go.Proofs.YtkfcbpbnoeaheaaGreatDoor.AA
namespace Go.Proofs.YtkfcbpbnoeaheaaGreatDoor.AA
open Go Go.Proofs.YtkfcbpbnoeaheaaGreatDoorR IG
set_option maxRecDepth 100000
set_option maxHeartbeats 4000000
def stp (x : It) (o : List It × Bool) (y : It) : List It × Bool := if (!o.2 && decide (x.s < y.s)) = true then (o.1 ++ [x] ++ [y], true) else (o.1 ++ [y], o.2)
def fnl (x : It) (o : List It × Bool) : List It := if o.2 then o.1 else o.1 ++ [x]
def sti (x : It) (l : List It) (i : Nat) : List It × Bool := (l.take i).foldl (stp x) ([], false)
theorem sti_s {x : It} {l : List It} {i : Nat} (h : i < l.length) : sti x l (i + 1) = stp x (sti x l i) l[i] := by
  unfold sti
  rw [take_s h, List.foldl_append]
  rfl
theorem stp_len {x : It} : ∀ (l : List It) (o : List It × Bool), (l.foldl (stp x) o).1.length ≤ o.1.length + 2 * l.length
  | [], o => by simp
  | y :: r, o => by
    rw [List.foldl_cons]
    have := stp_len (x := x) r (stp x o y)
    have h2 : (stp x o y).1.length ≤ o.1.length + 2 := by unfold stp; split <;> simp
    simp only [List.length_cons]
    omega
def addR (l : List It) (x : It) : List It × Int := if l.any (fun y => decide (y.s = x.s)) then ([], 8) else (fnl x (l.foldl (stp x) ([], false)), 0)
theorem e67 (N d : Nat) (l : List It) (want win : Int) (x : It) (hN : l.length < N) (hl : l.length < 100000) (hww : IntKind.i64.wrap (want + win) = want + win) : ans (TT N (d + 1) 67 [.one (rT l), iV want, iV win, aT x]) =
    some (if fitsB x.s want win then .tup [.one (rT (addR l x).1), iV (addR l x).2] else .tup [.one (rT []), iV 6]) := by
  have hfit : fitsB x.s want win = (!decide (x.s ≤ want) && !decide (want + win ≤ x.s) && !decide (1073741824 ≤ x.s)) := by
    simp only [fitsB]
    have e1 : decide (want < x.s) = !decide (x.s ≤ want) := by rw [← decide_not]; congr 1; simp
    have e2 : decide (x.s < want + win) = !decide (want + win ≤ x.s) := by rw [← decide_not]; congr 1; simp
    have e3 : decide (x.s < 1073741824) = !decide (1073741824 ≤ x.s) := by rw [← decide_not]; congr 1; simp
    rw [e1, e2, e3]
  rw [t67, F_ev rfl]
  simp only [hww, List.length_map, j67, b67, q67, qq, ww, List.replicate, Nat.reduceBEq, Nat.reduceAdd, Nat.reduceMul, Nat.reduceDiv, Nat.reduceEqDiff, Nat.reduceLeDiff, Nat.reduceLT, Int.reduceEq, Int.reduceNe, Int.reduceLT, Int.reduceLE, Int.reduceAdd, Int.reduceSub, Int.reduceMul, Int.reduceNeg, Int.reduceToNat, reduceCtorEq, reduceIte, if_true, if_false]
  refine an_cases (fun h1 => ?_) (fun h1 => ?_) <;> simp only [h1, hww, List.length_map, j67, b67, q67, qq, ww, List.replicate, Nat.reduceBEq, Nat.reduceAdd, Nat.reduceMul, Nat.reduceDiv, Nat.reduceEqDiff, Nat.reduceLeDiff, Nat.reduceLT, Int.reduceEq, Int.reduceNe, Int.reduceLT, Int.reduceLE, Int.reduceAdd, Int.reduceSub, Int.reduceMul, Int.reduceNeg, Int.reduceToNat, reduceCtorEq, reduceIte, if_true, if_false]
  · simp_all
  refine an_cases (fun h2 => ?_) (fun h2 => ?_) <;> simp only [h1, h2, hww, List.length_map, j67, b67, q67, qq, ww, List.replicate, Nat.reduceBEq, Nat.reduceAdd, Nat.reduceMul, Nat.reduceDiv, Nat.reduceEqDiff, Nat.reduceLeDiff, Nat.reduceLT, Int.reduceEq, Int.reduceNe, Int.reduceLT, Int.reduceLE, Int.reduceAdd, Int.reduceSub, Int.reduceMul, Int.reduceNeg, Int.reduceToNat, reduceCtorEq, reduceIte, if_true, if_false]
  · simp_all
  refine an_cases (fun h3 => ?_) (fun h3 => ?_) <;> simp only [h1, h2, h3, hww, List.length_map, j67, b67, q67, qq, ww, List.replicate, Nat.reduceBEq, Nat.reduceAdd, Nat.reduceMul, Nat.reduceDiv, Nat.reduceEqDiff, Nat.reduceLeDiff, Nat.reduceLT, Int.reduceEq, Int.reduceNe, Int.reduceLT, Int.reduceLE, Int.reduceAdd, Int.reduceSub, Int.reduceMul, Int.reduceNeg, Int.reduceToNat, reduceCtorEq, reduceIte, if_true, if_false]
  · simp_all
  have hF : fitsB x.s want win = true := by rw [hfit]; simp_all
  rw [hF, if_pos rfl]
  refine (loopK (K := fun o => ans (fin _ (aft _ _ _ o))) (fun i => ⟨[(0, .one (rT l)), (7, .one (.ref 448 0 0)), (10, .one (.sl 640 0 (sti x l i).1.length)), (11, bV (sti x l i).2), (12, iV i)], [(448, .box (eT x)), (640, .rows 29 2 ((sti x l i).1.map eT))]⟩)
    (fun i => some (if (l.drop i).any (fun y => decide (y.s = x.s)) then .tup [.one (rT []), iV 8] else .tup [.one (rT (fnl x (l.foldl (stp x) ([], false)))), iV 0])) l.length ?hr l.length 0 N _ (by omega) (by omega) ?hk).trans ?_
  case hk => simp only [gcK, lowB, Nat.reduceLeDiff, Nat.reduceBEq, List.contains_nil, List.contains_cons, Bool.or_false, Bool.false_or, Bool.false_eq_true, if_false, Bool.true_and, Bool.and_true, pickL, look_hit, look_miss, look_end, slMent, hpMent, S.ment, S.ment.smt, ments, V.ment, List.append_nil, List.nil_append, List.cons_append, List.all_nil, List.all_cons, Option.isSome_some, Bool.and_self, if_true, reduceIte, Nat.reduceEqDiff, not_false_eq_true, reduceCtorEq, Nat.reduceMul, Nat.reduceAdd]; rfl
  case hr =>
    intro i n hi ih
    (try dsimp only)
    have hlen := stp_len (x := x) (l.take i) ([], false)
    rw [List.length_take] at hlen
    simp only [List.length_nil] at hlen
    have hlen2 : (sti x l i).1.length ≤ 2 * i := by unfold sti; omega
    clear hlen
    by_cases hlt : i < l.length
    · have h1 : decide ((i : Int) < (l.length : Int)) = true := by simp; omega
      have hget : (l.map eT)[i]? = some (eT l[i]) := by simp [hlt]
      have hd : l.drop i = l[i] :: l.drop (i + 1) := by simp
      have hb : 0 ≤ (i : Int) ∧ (i : Int) < (l.length : Int) := by omega
      have hs := sti_s (x := x) hlt
      generalize hG : sti x l i = G at *
      obtain ⟨o, b⟩ := G
      simp only at hlen2
      have hb1 : (o.length + 1) * 16 ≤ 140737488355328 := by omega
      have hb2 : (o.length + 1 + 1) * 16 ≤ 140737488355328 := by omega
      simp only [h1, hb.1, hb.2, hget, List.length_map, Int.toNat_natCast, j67, b67, q67, qq, ww, List.replicate, Nat.reduceBEq, Nat.reduceAdd, Nat.reduceMul, Nat.reduceDiv, Nat.reduceEqDiff, Nat.reduceLeDiff, Nat.reduceLT, Int.reduceEq, Int.reduceNe, Int.reduceLT, Int.reduceLE, Int.reduceAdd, Int.reduceSub, Int.reduceMul, Int.reduceNeg, Int.reduceToNat, reduceCtorEq, reduceIte, if_true, if_false]
      refine an_cases2 (fun hp => ?_) (fun hp => ?_)
      · simp only [hp, j67, b67, q67, qq, ww, List.replicate, Nat.reduceBEq, Nat.reduceAdd, Nat.reduceMul, Nat.reduceDiv, Nat.reduceEqDiff, Nat.reduceLeDiff, Nat.reduceLT, Int.reduceEq, Int.reduceNe, Int.reduceLT, Int.reduceLE, Int.reduceAdd, Int.reduceSub, Int.reduceMul, Int.reduceNeg, Int.reduceToNat, reduceCtorEq, reduceIte, if_true, if_false]
        rw [hd, List.any_cons, show decide (l[i].s = x.s) = true from hp]
        rfl
      · rw [hd, List.any_cons, show decide (l[i].s = x.s) = false from hp, Bool.false_or]
        have htk : (o.map eT ++ [eT x]).take (o.length + 1) = o.map eT ++ [eT x] := List.take_of_length_le (by simp)
        cases b with
        | true =>
          simp only [hp, h1, hb.1, hb.2, hget, hb1, takeT, all2, wi i (by omega), List.length_map, Int.toNat_natCast, j67, b67, q67, qq, ww, List.replicate, Nat.reduceBEq, Nat.reduceAdd, Nat.reduceMul, Nat.reduceDiv, Nat.reduceEqDiff, Nat.reduceLeDiff, Nat.reduceLT, Int.reduceEq, Int.reduceNe, Int.reduceLT, Int.reduceLE, Int.reduceAdd, Int.reduceSub, Int.reduceMul, Int.reduceNeg, Int.reduceToNat, reduceCtorEq, reduceIte, if_true, if_false]
          rw [show stp x (o, true) l[i] = (o ++ [l[i]], true) by simp [stp]] at hs
          rw [hs] at ih
          exact ih hlt _ (by simp only [gcK, lowB, Nat.reduceLeDiff, Nat.reduceBEq, List.contains_nil, List.contains_cons, Bool.or_false, Bool.false_or, Bool.false_eq_true, if_false, Bool.true_and, Bool.and_true, pickL, look_hit, look_miss, look_end, slMent, hpMent, S.ment, S.ment.smt, ments, V.ment, List.append_nil, List.nil_append, List.cons_append, List.all_nil, List.all_cons, Option.isSome_some, Bool.and_self, if_true, reduceIte, Nat.reduceEqDiff, not_false_eq_true, reduceCtorEq, Nat.reduceMul, Nat.reduceAdd, List.map_append, List.map_cons, List.map_nil, List.length_append, List.length_cons, List.length_nil])
        | false =>
          simp only [hp, h1, hb.1, hb.2, hget, List.length_map, Int.toNat_natCast, j67, b67, q67, qq, ww, List.replicate, Nat.reduceBEq, Nat.reduceAdd, Nat.reduceMul, Nat.reduceDiv, Nat.reduceEqDiff, Nat.reduceLeDiff, Nat.reduceLT, Int.reduceEq, Int.reduceNe, Int.reduceLT, Int.reduceLE, Int.reduceAdd, Int.reduceSub, Int.reduceMul, Int.reduceNeg, Int.reduceToNat, reduceCtorEq, reduceIte, if_true, if_false]
          refine an_cases2 (fun hp2 => ?_) (fun hp2 => ?_) <;> simp only [hp, hp2, h1, hb.1, hb.2, hget, hb1, hb2, takeT, htk, all2, wi i (by omega), List.length_map, Int.toNat_natCast, j67, b67, q67, qq, ww, List.replicate, Nat.reduceBEq, Nat.reduceAdd, Nat.reduceMul, Nat.reduceDiv, Nat.reduceEqDiff, Nat.reduceLeDiff, Nat.reduceLT, Int.reduceEq, Int.reduceNe, Int.reduceLT, Int.reduceLE, Int.reduceAdd, Int.reduceSub, Int.reduceMul, Int.reduceNeg, Int.reduceToNat, reduceCtorEq, reduceIte, if_true, if_false]
          · rw [show stp x (o, false) l[i] = (o ++ [x] ++ [l[i]], true) by simp [stp]; simpa using hp2] at hs
            rw [hs] at ih
            exact ih hlt _ (by simp only [gcK, lowB, Nat.reduceLeDiff, Nat.reduceBEq, List.contains_nil, List.contains_cons, Bool.or_false, Bool.false_or, Bool.false_eq_true, if_false, Bool.true_and, Bool.and_true, pickL, look_hit, look_miss, look_end, slMent, hpMent, S.ment, S.ment.smt, ments, V.ment, List.append_nil, List.nil_append, List.cons_append, List.all_nil, List.all_cons, Option.isSome_some, Bool.and_self, if_true, reduceIte, Nat.reduceEqDiff, not_false_eq_true, reduceCtorEq, Nat.reduceMul, Nat.reduceAdd, List.map_append, List.map_cons, List.map_nil, List.length_append, List.length_cons, List.length_nil])
          · rw [show stp x (o, false) l[i] = (o ++ [l[i]], false) by simp [stp]; simpa using hp2] at hs
            rw [hs] at ih
            exact ih hlt _ (by simp only [gcK, lowB, Nat.reduceLeDiff, Nat.reduceBEq, List.contains_nil, List.contains_cons, Bool.or_false, Bool.false_or, Bool.false_eq_true, if_false, Bool.true_and, Bool.and_true, pickL, look_hit, look_miss, look_end, slMent, hpMent, S.ment, S.ment.smt, ments, V.ment, List.append_nil, List.nil_append, List.cons_append, List.all_nil, List.all_cons, Option.isSome_some, Bool.and_self, if_true, reduceIte, Nat.reduceEqDiff, not_false_eq_true, reduceCtorEq, Nat.reduceMul, Nat.reduceAdd, List.map_append, List.map_cons, List.map_nil, List.length_append, List.length_cons, List.length_nil])
    · have h1 : decide ((i : Int) < (l.length : Int)) = false := by simp; omega
      have hfull : sti x l i = l.foldl (stp x) ([], false) := by unfold sti; rw [List.take_of_length_le (by omega)]
      rw [← hfull, List.drop_of_length_le (by omega)]
      generalize hG : sti x l i = G at *
      obtain ⟨o, b⟩ := G
      simp only at hlen2
      have hb1 : (o.length + 1) * 16 ≤ 140737488355328 := by omega
      cases b with
      | true =>
        simp only [h1, takeT, List.length_map, j67, b67, q67, qq, ww, List.replicate, Nat.reduceBEq, Nat.reduceAdd, Nat.reduceMul, Nat.reduceDiv, Nat.reduceEqDiff, Nat.reduceLeDiff, Nat.reduceLT, Int.reduceEq, Int.reduceNe, Int.reduceLT, Int.reduceLE, Int.reduceAdd, Int.reduceSub, Int.reduceMul, Int.reduceNeg, Int.reduceToNat, reduceCtorEq, reduceIte, if_true, if_false]
        simp [fnl, takeT]
      | false =>
        simp only [h1, hb1, takeT, all2, List.length_map, j67, b67, q67, qq, ww, List.replicate, Nat.reduceBEq, Nat.reduceAdd, Nat.reduceMul, Nat.reduceDiv, Nat.reduceEqDiff, Nat.reduceLeDiff, Nat.reduceLT, Int.reduceEq, Int.reduceNe, Int.reduceLT, Int.reduceLE, Int.reduceAdd, Int.reduceSub, Int.reduceMul, Int.reduceNeg, Int.reduceToNat, reduceCtorEq, reduceIte, if_true, if_false]
        rw [List.take_of_length_le (by simp), List.take_of_length_le (by simp)]
        simp [fnl]
  rw [List.drop_zero]
  unfold addR
  split <;> rfl
end Go.Proofs.YtkfcbpbnoeaheaaGreatDoor.AA
namespace Go.Proofs.YtkfcbpbnoeaheaaGreatDoor.AA
open Go Go.Proofs.YtkfcbpbnoeaheaaGreatDoorR IG
set_option maxRecDepth 100000
set_option maxHeartbeats 4000000
theorem stp_true (x : It) : ∀ (l o : List It), l.foldl (stp x) (o, true) = (o ++ l, true)
  | [], o => by simp
  | y :: r, o => by
    rw [List.foldl_cons, show stp x (o, true) y = (o ++ [y], true) by simp [stp], stp_true x r]
    simp
theorem stp_ins (x : It) : ∀ (l o : List It), (l.any fun y => decide (y.s = x.s)) = false → ∃ m, ins x l = some m ∧ fnl x (l.foldl (stp x) (o, false)) = o ++ m
  | [], o, _ => ⟨[x], rfl, rfl⟩
  | y :: r, o, h => by
    rw [List.any_cons, Bool.or_eq_false_iff] at h
    have hne : ¬ y.s = x.s := by simpa using h.1
    by_cases hlt : x.s < y.s
    · refine ⟨x :: y :: r, ?_, ?_⟩
      · unfold ins
        rw [if_pos (by omega), if_neg hne]
      · rw [List.foldl_cons, show stp x (o, false) y = (o ++ [x] ++ [y], true) by simp [stp, hlt], stp_true]
        simp [fnl]
    · obtain ⟨m, h1, h2⟩ := stp_ins x r (o ++ [y]) h.2
      refine ⟨y :: m, ?_, ?_⟩
      · unfold ins
        rw [if_neg (by omega), h1]
        rfl
      · rw [List.foldl_cons, show stp x (o, false) y = (o ++ [y], false) by simp [stp, hlt], h2]
        simp
theorem risB_gt {want win : Int} : ∀ {l : List It} {p : Int}, risB want win (some p) l = true → ∀ y ∈ l, p < y.s
  | [], p, _, y, hy => by simp at hy
  | z :: r, p, h, y, hy => by
    simp only [risB, Bool.and_eq_true, decide_eq_true_eq] at h
    rcases List.mem_cons.1 hy with rfl | hy
    · exact h.1.2
    · have := risB_gt h.2 y hy
      omega
theorem ins_no {want win : Int} {x : It} : ∀ {l : List It} {p : Option Int}, risB want win p l = true → (l.any fun y => decide (y.s = x.s)) = true → ins x l = none
  | [], p, _, h => by simp at h
  | z :: r, p, h, h2 => by
    simp only [risB, Bool.and_eq_true] at h
    unfold ins
    rw [List.any_cons, Bool.or_eq_true] at h2
    rcases h2 with h2 | h2
    · have h3 : z.s = x.s := by simpa using h2
      rw [if_pos (by omega), if_pos h3]
    · have h4 : z.s < x.s := by
        obtain ⟨y, hy, he⟩ := List.any_eq_true.1 h2
        have := risB_gt h.2 y hy
        have he : y.s = x.s := by simpa using he
        omega
      rw [if_neg (by omega), ins_no h.2 h2]
      rfl
theorem add_eq {l : List It} {want win : Int} {x : It} (h1 : ahOK l want win = true) (h2 : inB x.v 0 2147483647 = true) (h3 : fitsB x.s want win = true) : addA l want win x = addR l x := by
  have hr : risB want win none l = true := by simp only [ahOK, Bool.and_eq_true] at h1; exact h1.2
  unfold addA addR
  rw [h1, h2, h3]
  cases h : l.any fun y => decide (y.s = x.s) with
  | true => rw [ins_no hr h]; rfl
  | false =>
    obtain ⟨m, h4, h5⟩ := stp_ins x l [] h
    rw [h4, h5]
    rfl
theorem ins_len {x : It} : ∀ {l m : List It}, ins x l = some m → m.length = l.length + 1
  | [], m, h => by simp [ins] at h; subst h; rfl
  | y :: r, m, h => by
    unfold ins at h
    split at h
    · split at h
      · simp at h
      · simp at h; subst h; rfl
    · cases hi : ins x r with
      | none => rw [hi] at h; simp at h
      | some q => rw [hi] at h; simp at h; subst h; simp [ins_len hi]
theorem addA_len (l : List It) (want win : Int) (x : It) : (addA l want win x).1.length ≤ l.length + 1 := by
  unfold addA
  split
  · simp
  · split
    · simp
    · split
      · simp
      · rename_i h
        simp [ins_len h]
end Go.Proofs.YtkfcbpbnoeaheaaGreatDoor.AA
namespace Go.Proofs.YtkfcbpbnoeaheaaGreatDoor.FA
open Go Go.Proofs.YtkfcbpbnoeaheaaGreatDoorR IG
open QA (Ev eE aE rE inB epOK evOK qOK putE)
open AA (It eT aT rT ahOK addA leftL wi wm takeT allT take_s)
open EC (Cf eC okC)
set_option maxRecDepth 100000
set_option maxHeartbeats 4000000
def kRow : Int → List It → Bool
  | _, [] => true
  | s, x :: r => decide (1 ≤ x.s) && decide (x.s = s) && inB x.v 0 2147483647 && kRow (s + 1) r
theorem e126 (N d : Nat) (l : List It) (want : Int) (hw : 0 ≤ want ∧ want ≤ 1073741824) (hN : l.length < N) (hl : l.length < 1000000) : TT N (d + 3) 126 [.one (rT l), iV want] = some (bV (kRow (want - l.length) l), []) := by
  have hwl : IntKind.i64.wrap (want - (l.length : Int)) = want - l.length := IntWalk.i64_in _ (by omega)
  have hv := fun d n => AA.e51 N d n
  rw [t126, F_ev rfl]
  simp only [List.length_map, j126, b126, q126, qq, ww, List.replicate, Nat.reduceBEq, Nat.reduceAdd, Nat.reduceMul, Nat.reduceDiv, Nat.reduceEqDiff, Nat.reduceLeDiff, Nat.reduceLT, Int.reduceEq, Int.reduceNe, Int.reduceLT, Int.reduceLE, Int.reduceAdd, Int.reduceSub, Int.reduceMul, Int.reduceNeg, Int.reduceToNat, reduceCtorEq, reduceIte, if_true, if_false]
  refine (loopK (K := fun o => fin _ (aft _ _ _ o)) (fun i => ⟨[(0, .one (rT l)), (1, iV want), (7, .one (rT l)), (8, iV l.length), (9, iV i)], []⟩) (fun i => some (bV (kRow (want - l.length + i) (l.drop i)), [])) l.length ?hr l.length 0 N _ (by omega) hN ?hk).trans ?_
  case hk => simp only [gcK, lowB, Nat.reduceLeDiff, Nat.reduceBEq, List.contains_nil, List.contains_cons, Bool.or_false, Bool.false_or, Bool.false_eq_true, if_false, Bool.true_and, Bool.and_true, pickL, look_hit, look_miss, look_end, slMent, hpMent, S.ment, S.ment.smt, ments, V.ment, List.append_nil, List.nil_append, List.cons_append, List.all_nil, List.all_cons, Option.isSome_some, Bool.and_self, if_true, reduceIte, Nat.reduceEqDiff, not_false_eq_true, reduceCtorEq, Nat.reduceMul, Nat.reduceAdd]; rfl
  case hr =>
    intro i n hi ih
    (try dsimp only)
    by_cases hlt : i < l.length
    · have h1 : decide ((i : Int) < (l.length : Int)) = true := by simp; omega
      have hg1 : (l.map eT)[i]? = some (eT l[i]) := by simp [hlt]
      have hd1 : l.drop i = l[i] :: l.drop (i + 1) := by simp
      have hb : 0 ≤ (i : Int) ∧ (i : Int) < (l.length : Int) := by omega
      have hwi : IntKind.i64.wrap (want - (l.length : Int) + i) = want - l.length + i := IntWalk.i64_in _ (by omega)
      have hnx : want - (l.length : Int) + ((i + 1 : Nat) : Int) = want - (l.length : Int) + i + 1 := by omega
      rw [hd1, kRow]
      rw [hnx] at ih
      simp only [h1, hb.1, hb.2, hg1, hwl, hwi, hv, wi i (by omega), List.length_map, Int.toNat_natCast, j126, b126, q126, qq, ww, List.replicate, Nat.reduceBEq, Nat.reduceAdd, Nat.reduceMul, Nat.reduceDiv, Nat.reduceEqDiff, Nat.reduceLeDiff, Nat.reduceLT, Int.reduceEq, Int.reduceNe, Int.reduceLT, Int.reduceLE, Int.reduceAdd, Int.reduceSub, Int.reduceMul, Int.reduceNeg, Int.reduceToNat, reduceCtorEq, reduceIte, if_true, if_false]
      repeat' (refine fin_cases2 (fun hp => ?_) (fun hp => ?_) <;> simp only [hp, hwl, hwi, hv, wi i (by omega), List.length_map, Int.toNat_natCast, j126, b126, q126, qq, ww, List.replicate, Nat.reduceBEq, Nat.reduceAdd, Nat.reduceMul, Nat.reduceDiv, Nat.reduceEqDiff, Nat.reduceLeDiff, Nat.reduceLT, Int.reduceEq, Int.reduceNe, Int.reduceLT, Int.reduceLE, Int.reduceAdd, Int.reduceSub, Int.reduceMul, Int.reduceNeg, Int.reduceToNat, reduceCtorEq, reduceIte, if_true, if_false])
      · have : decide (1 ≤ l[i].s) = false := by simp at hp ⊢; omega
        simp [this]
      · have : decide (l[i].s = want - (l.length : Int) + i) = false := by simp at hp ⊢; omega
        simp [this]
      · have : inB l[i].v 0 2147483647 = false := by simp [inB]; simp [AA.inB] at hp; omega
        simp [this]
      · refine (ih hlt _ (by simp only [gcK, lowB, Nat.reduceLeDiff, Nat.reduceBEq, List.contains_nil, List.contains_cons, Bool.or_false, Bool.false_or, Bool.false_eq_true, if_false, Bool.true_and, Bool.and_true, pickL, look_hit, look_miss, look_end, slMent, hpMent, S.ment, S.ment.smt, ments, V.ment, List.append_nil, List.nil_append, List.cons_append, List.all_nil, List.all_cons, Option.isSome_some, Bool.and_self, if_true, reduceIte, Nat.reduceEqDiff, not_false_eq_true, reduceCtorEq, Nat.reduceMul, Nat.reduceAdd])).trans ?_
        clear ih
        rename_i g1 g2
        have a1 : decide (1 ≤ l[i].s) = true := by simp at g1 ⊢; omega
        have a2 : decide (l[i].s = want - (l.length : Int) + i) = true := by simp at g2 ⊢; omega
        have a3 : inB l[i].v 0 2147483647 = true := by simp [inB]; simp [AA.inB] at hp; omega
        simp [a1, a2, a3]
    · have h1 : decide ((i : Int) < (l.length : Int)) = false := by simp; omega
      simp only [h1, List.length_map, j126, b126, q126, qq, ww, List.replicate, Nat.reduceBEq, Nat.reduceAdd, Nat.reduceMul, Nat.reduceDiv, Nat.reduceEqDiff, Nat.reduceLeDiff, Nat.reduceLT, Int.reduceEq, Int.reduceNe, Int.reduceLT, Int.reduceLE, Int.reduceAdd, Int.reduceSub, Int.reduceMul, Int.reduceNeg, Int.reduceToNat, reduceCtorEq, reduceIte, if_true, if_false]
      rw [List.drop_of_length_le (by omega)]
      rfl
  simp
def kpOK (l : List It) (want lim : Int) : Bool := inB want 1 1073741824 && inB lim 1 16 && decide ((l.length : Int) ≤ lim) && kRow (want - l.length) l
theorem e99 (N d : Nat) (l : List It) (want lim : Int) (hN : l.length < N) (hl : l.length < 1000000) : TT N (d + 4) 99 [.one (rT l), iV want, iV lim] = some (iV (if kpOK l want lim then 0 else 1), []) := by
  have hc := fun d n => AA.e46 N d n
  rw [t99, F_ev rfl]
  simp only [hc, List.length_map, j99, b99, q99, qq, ww, List.replicate, Nat.reduceBEq, Nat.reduceAdd, Nat.reduceMul, Nat.reduceDiv, Nat.reduceEqDiff, Nat.reduceLeDiff, Nat.reduceLT, Int.reduceEq, Int.reduceNe, Int.reduceLT, Int.reduceLE, Int.reduceAdd, Int.reduceSub, Int.reduceMul, Int.reduceNeg, Int.reduceToNat, reduceCtorEq, reduceIte, if_true, if_false]
  cases h0 : AA.inB want 1 1073741824 with
  | false =>
    have : kpOK l want lim = false := by rw [kpOK, show inB want 1 1073741824 = false from h0]; rfl
    rw [this]
    simp only [h0, j99, b99, q99, qq, ww, List.replicate, Nat.reduceBEq, Nat.reduceAdd, Nat.reduceMul, Nat.reduceDiv, Nat.reduceEqDiff, Nat.reduceLeDiff, Nat.reduceLT, Int.reduceEq, Int.reduceNe, Int.reduceLT, Int.reduceLE, Int.reduceAdd, Int.reduceSub, Int.reduceMul, Int.reduceNeg, Int.reduceToNat, reduceCtorEq, reduceIte, if_true, if_false]
  | true =>
    have hk := fun d => e126 N d l want (by simp [AA.inB] at h0; omega) hN hl
    have : kpOK l want lim = (inB lim 1 16 && decide ((l.length : Int) ≤ lim) && kRow (want - l.length) l) := by rw [kpOK, show inB want 1 1073741824 = true from h0]; simp
    rw [this]
    have hw : 1 ≤ want ∧ want ≤ 1073741824 := by simpa [AA.inB] using h0
    by_cases h1 : 1 ≤ lim ∧ lim ≤ 16 ∧ (l.length : Int) ≤ lim
    · have g1 : decide (lim < 1) = false := by simp; omega
      have g2 : decide (lim > 16) = false := by simp; omega
      have g3 : decide ((l.length : Int) > lim) = false := by simp; omega
      rw [show inB lim 1 16 = true by simp [inB]; omega, show decide ((l.length : Int) ≤ lim) = true by simp; omega]
      cases h2 : kRow (want - l.length) l <;> simp only [h0, hk, h2, g1, g2, g3, List.length_map, Bool.not_true, Bool.not_false, j99, b99, q99, qq, ww, List.replicate, Nat.reduceBEq, Nat.reduceAdd, Nat.reduceMul, Nat.reduceDiv, Nat.reduceEqDiff, Nat.reduceLeDiff, Nat.reduceLT, Int.reduceEq, Int.reduceNe, Int.reduceLT, Int.reduceLE, Int.reduceAdd, Int.reduceSub, Int.reduceMul, Int.reduceNeg, Int.reduceToNat, reduceCtorEq, reduceIte, if_true, if_false] <;> rfl
    · have hf : (inB lim 1 16 && decide ((l.length : Int) ≤ lim)) = false := by
        cases h : (inB lim 1 16 && decide ((l.length : Int) ≤ lim)) with
        | false => rfl
        | true => exfalso; simp [inB] at h; omega
      rw [hf]
      by_cases g1 : lim < 1
      · simp only [h0, decide_eq_true g1, List.length_map, j99, b99, q99, qq, ww, List.replicate, Nat.reduceBEq, Nat.reduceAdd, Nat.reduceMul, Nat.reduceDiv, Nat.reduceEqDiff, Nat.reduceLeDiff, Nat.reduceLT, Int.reduceEq, Int.reduceNe, Int.reduceLT, Int.reduceLE, Int.reduceAdd, Int.reduceSub, Int.reduceMul, Int.reduceNeg, Int.reduceToNat, reduceCtorEq, reduceIte, if_true, if_false]; try rfl
      · by_cases g2 : lim > 16
        · simp only [h0, decide_eq_false g1, decide_eq_true g2, List.length_map, j99, b99, q99, qq, ww, List.replicate, Nat.reduceBEq, Nat.reduceAdd, Nat.reduceMul, Nat.reduceDiv, Nat.reduceEqDiff, Nat.reduceLeDiff, Nat.reduceLT, Int.reduceEq, Int.reduceNe, Int.reduceLT, Int.reduceLE, Int.reduceAdd, Int.reduceSub, Int.reduceMul, Int.reduceNeg, Int.reduceToNat, reduceCtorEq, reduceIte, if_true, if_false]; try rfl
        · have g3 : (l.length : Int) > lim := by omega
          simp only [h0, decide_eq_false g1, decide_eq_false g2, decide_eq_true g3, List.length_map, j99, b99, q99, qq, ww, List.replicate, Nat.reduceBEq, Nat.reduceAdd, Nat.reduceMul, Nat.reduceDiv, Nat.reduceEqDiff, Nat.reduceLeDiff, Nat.reduceLT, Int.reduceEq, Int.reduceNe, Int.reduceLT, Int.reduceLE, Int.reduceAdd, Int.reduceSub, Int.reduceMul, Int.reduceNeg, Int.reduceToNat, reduceCtorEq, reduceIte, if_true, if_false]; try rfl
def pushL (l : List It) (want lim v : Int) : List It := (l ++ [(⟨want, v⟩ : It)]).drop (l.length + 1 - lim.toNat)
def pushP (l : List It) (want lim v : Int) : List It × Int :=
  if (kpOK l want lim && inB v 0 2147483647) = false then ([], 1) else if 1073741824 ≤ want then ([], 11) else (pushL l want lim v, 0)
theorem e87 (N d : Nat) (l : List It) (want lim v : Int) (hN : l.length < N) (hl : l.length < 1000) : TT N (d + 5) 87 [.one (rT l), iV want, iV lim, iV v] = some (.tup [.one (rT (pushP l want lim v).1), iV (pushP l want lim v).2], []) := by
  have hv := fun d n => AA.e51 N d n
  have hk := fun d => e99 N d l want lim hN (by omega)
  have hcl := fun d => AA.e85 N d l (by omega)
  unfold pushP
  rw [t87, F_ev rfl]
  cases h0 : kpOK l want lim with
  | false =>
    rw [h0] at hk
    simp only [hk, hv, List.length_map, j87, b87, q87, qq, ww, List.replicate, Nat.reduceBEq, Nat.reduceAdd, Nat.reduceMul, Nat.reduceDiv, Nat.reduceEqDiff, Nat.reduceLeDiff, Nat.reduceLT, Int.reduceEq, Int.reduceNe, Int.reduceLT, Int.reduceLE, Int.reduceAdd, Int.reduceSub, Int.reduceMul, Int.reduceNeg, Int.reduceToNat, reduceCtorEq, reduceIte, if_true, if_false]
    rfl
  | true =>
  rw [h0] at hk
  have hlim : 1 ≤ lim ∧ lim ≤ 16 ∧ (l.length : Int) ≤ lim := by simp [kpOK, inB] at h0; omega
  cases h1 : inB v 0 2147483647 with
  | false =>
    simp only [hk, hv, show AA.inB v 0 2147483647 = false from h1, List.length_map, j87, b87, q87, qq, ww, List.replicate, Nat.reduceBEq, Nat.reduceAdd, Nat.reduceMul, Nat.reduceDiv, Nat.reduceEqDiff, Nat.reduceLeDiff, Nat.reduceLT, Int.reduceEq, Int.reduceNe, Int.reduceLT, Int.reduceLE, Int.reduceAdd, Int.reduceSub, Int.reduceMul, Int.reduceNeg, Int.reduceToNat, reduceCtorEq, reduceIte, if_true, if_false]
    rfl
  | true =>
  by_cases h2 : 1073741824 ≤ want
  · have hd : decide (1073741824 ≤ want) = true := decide_eq_true h2
    rw [if_neg (by decide), if_pos h2]
    simp only [hk, hv, hd, show AA.inB v 0 2147483647 = true from h1, List.length_map, j87, b87, q87, qq, ww, List.replicate, Nat.reduceBEq, Nat.reduceAdd, Nat.reduceMul, Nat.reduceDiv, Nat.reduceEqDiff, Nat.reduceLeDiff, Nat.reduceLT, Int.reduceEq, Int.reduceNe, Int.reduceLT, Int.reduceLE, Int.reduceAdd, Int.reduceSub, Int.reduceMul, Int.reduceNeg, Int.reduceToNat, reduceCtorEq, reduceIte, if_true, if_false]
    rfl
  · have hd : decide (1073741824 ≤ want) = false := decide_eq_false h2
    rw [if_neg (by decide), if_neg h2]
    have hby : (l.length + 1) * 16 ≤ 140737488355328 := by omega
    have hws : IntKind.i64.wrap (((l.length + 1 : Nat) : Int) - lim) = ((l.length + 1 : Nat) : Int) - lim := IntWalk.i64_in _ (by omega)
    have hmx : (if (0 : Int) > ((l.length + 1 : Nat) : Int) - lim then 0 else ((l.length + 1 : Nat) : Int) - lim) = ((l.length + 1 - lim.toNat : Nat) : Int) := by split <;> omega
    have hle : l.length + 1 - lim.toNat ≤ l.length + 1 := by omega
    have hb1 : 0 ≤ ((l.length + 1 - lim.toNat : Nat) : Int) ∧ ((l.length + 1 - lim.toNat : Nat) : Int) ≤ ((l.length + 1 : Nat) : Int) := by omega
    have hsum : l.length + 1 - lim.toNat + (l.length + 1 - (l.length + 1 - lim.toNat)) = l.length + 1 := by omega
    generalize hK : l.length + 1 - lim.toNat = k at *
    have hdrop : ((l.map eT ++ [eT (⟨want, v⟩ : It)]).drop k) = (pushL l want lim v).map eT := by
      rw [pushL, hK, ← List.map_singleton, ← List.map_append, List.map_drop]
    have hpl : (pushL l want lim v).length = l.length + 1 - k := by simp [pushL, hK]
    have htk : List.take (l.length + 1 - k) ((pushL l want lim v).map eT) = (pushL l want lim v).map eT := List.take_of_length_le (by rw [List.length_map]; omega)
    have hcut := fun d => AA.e85f N d ((pushL l want lim v).map eT) (allT _) (by rw [List.length_map]; omega)
    have hne : ((k : Int) = ((l.length + 1 : Nat) : Int)) = False := eq_false (by omega)
    have hself := AA.selfT (pushL l want lim v)
    simp only [hk, hv, hd, hcl, hby, hws, hmx, hle, hb1.1, hb1.2, hsum, hdrop, htk, hcut, hself, hne, hpl, takeT, allT, show AA.inB v 0 2147483647 = true from h1, List.length_map, Int.toNat_natCast, Nat.zero_add, List.take_length, j87, b87, q87, qq, ww, List.replicate, Nat.reduceBEq, Nat.reduceAdd, Nat.reduceMul, Nat.reduceDiv, Nat.reduceEqDiff, Nat.reduceLeDiff, Nat.reduceLT, Int.reduceEq, Int.reduceNe, Int.reduceLT, Int.reduceLE, Int.reduceAdd, Int.reduceSub, Int.reduceMul, Int.reduceNeg, Int.reduceToNat, reduceCtorEq, reduceIte, if_true, if_false]
def fitE (l : List Ev) (lim : Int) (x : Ev) : List Ev := if (putE l lim x).1 = 0 then (putE l lim x).2 else l
theorem putE_len (l : List Ev) (lim : Int) (x : Ev) : (putE l lim x).2.length ≤ l.length + 1 := by
  unfold putE
  repeat' split
  all_goals simp
  all_goals omega
theorem fitE_len (l : List Ev) (lim : Int) (x : Ev) : (fitE l lim x).length ≤ l.length + 1 := by
  have := putE_len l lim x
  unfold fitE
  split <;> omega
theorem e94 (N d : Nat) (l : List Ev) (lim : Int) (x : Ev) (hN : l.length < N) (hl : l.length < 999999) : TT N (d + 12) 94 [.one (rE l), iV lim, aE x] = some (.one (rE (fitE l lim x)), []) := by
  have hp := fun d => QA.e120 N d l lim x hN hl
  have hc := fun d => QA.e86 N d l (by omega)
  unfold fitE
  generalize hG : putE l lim x = G at *
  obtain ⟨c, m⟩ := G
  rw [t94, F_ev rfl]
  by_cases h0 : c = 0
  · have hd : decide (c = 0) = true := decide_eq_true h0
    simp only [hp, hc, hd, h0, List.length_map, j94, b94, q94, qq, ww, List.replicate, Nat.reduceBEq, Nat.reduceAdd, Nat.reduceMul, Nat.reduceDiv, Nat.reduceEqDiff, Nat.reduceLeDiff, Nat.reduceLT, Int.reduceEq, Int.reduceNe, Int.reduceLT, Int.reduceLE, Int.reduceAdd, Int.reduceSub, Int.reduceMul, Int.reduceNeg, Int.reduceToNat, reduceCtorEq, reduceIte, if_true, if_false]
  · have hd : decide (c = 0) = false := decide_eq_false h0
    simp only [hp, hc, hd, h0, QA.tk, List.length_map, j94, b94, q94, qq, ww, List.replicate, Nat.reduceBEq, Nat.reduceAdd, Nat.reduceMul, Nat.reduceDiv, Nat.reduceEqDiff, Nat.reduceLeDiff, Nat.reduceLT, Int.reduceEq, Int.reduceNe, Int.reduceLT, Int.reduceLE, Int.reduceAdd, Int.reduceSub, Int.reduceMul, Int.reduceNeg, Int.reduceToNat, reduceCtorEq, reduceIte, if_true, if_false]
theorem e69 (N d : Nat) (l : List Ev) (lim : Int) (x : Ev) (hl : l.length < 999999) (hq : qOK l lim = true) (hx : evOK x = true) : TT N (d + 3) 69 [.one (rE l), iV lim, aE x] = some (.one (rE (fitE l lim x)), []) := by
  have hp := fun d => QA.e104 N d l lim x hl hq hx
  rw [t69, F_ev rfl]
  simp only [hp, List.length_map, j69, b69, q69, qq, ww, List.replicate, Nat.reduceBEq, Nat.reduceAdd, Nat.reduceMul, Nat.reduceDiv, Nat.reduceEqDiff, Nat.reduceLeDiff, Nat.reduceLT, Int.reduceEq, Int.reduceNe, Int.reduceLT, Int.reduceLE, Int.reduceAdd, Int.reduceSub, Int.reduceMul, Int.reduceNeg, Int.reduceToNat, reduceCtorEq, reduceIte, if_true, if_false]
  rfl
end Go.Proofs.YtkfcbpbnoeaheaaGreatDoor.FA
namespace Go.Proofs.YtkfcbpbnoeaheaaGreatDoor.FA
open Go Go.Proofs.YtkfcbpbnoeaheaaGreatDoorR IG
open QA (Ev eE aE rE inB epOK evOK qOK putE n01)
open AA (It eT aT rT ahOK addA leftL wi wm takeT allT take_s)
open EC (Cf eC okC)
set_option maxRecDepth 100000
set_option maxHeartbeats 4000000
structure Sm where
  (e w kn : Int)
  (kp ah : List It)
  deriving DecidableEq
abbrev eS (s : Sm) : List V := [.int .i64 s.e, .int .i64 s.w, .int .i64 s.kn, rT s.kp, rT s.ah]
abbrev aS (s : Sm) : S := .agg (eS s)
abbrev s0 : Sm := ⟨0, 0, 0, [], []⟩
abbrev smL (s : Sm) : Prop := s.kp.length < 900 ∧ s.ah.length < 900
def zeroB (s : Sm) : Bool := decide (s.e = 0) && decide (s.w = 0) && decide (s.kn = 0) && decide ((s.kp.length : Int) = 0) && decide ((s.ah.length : Int) = 0)
theorem zeroB_iff {s : Sm} : zeroB s = true ↔ s = s0 := by
  obtain ⟨e, w, k, kp, ah⟩ := s
  simp [zeroB, and_assoc, List.length_eq_zero_iff]
theorem e98 (N d : Nat) (s : Sm) : TT N (d + 1) 98 [aS s] = some (bV (zeroB s), []) := by
  rw [t98, F_ev rfl]
  simp only [List.length_map, j98, b98, q98, qq, ww, List.replicate, Nat.reduceBEq, Nat.reduceAdd, Nat.reduceMul, Nat.reduceDiv, Nat.reduceEqDiff, Nat.reduceLeDiff, Nat.reduceLT, Int.reduceEq, Int.reduceNe, Int.reduceLT, Int.reduceLE, Int.reduceAdd, Int.reduceSub, Int.reduceMul, Int.reduceNeg, Int.reduceToNat, reduceCtorEq, reduceIte, if_true, if_false]
  repeat' (refine fin_cases (fun h1 => ?_) (fun h1 => ?_) <;> simp only [h1, List.length_map, j98, b98, q98, qq, ww, List.replicate, Nat.reduceBEq, Nat.reduceAdd, Nat.reduceMul, Nat.reduceDiv, Nat.reduceEqDiff, Nat.reduceLeDiff, Nat.reduceLT, Int.reduceEq, Int.reduceNe, Int.reduceLT, Int.reduceLE, Int.reduceAdd, Int.reduceSub, Int.reduceMul, Int.reduceNeg, Int.reduceToNat, reduceCtorEq, reduceIte, if_true, if_false])
  all_goals simp_all [zeroB]
def rightB (c : Cf) (s : Sm) : Bool := zeroB s || (epOK s.e && inB s.w 1 1073741824 && decide (s.w ≤ s.kn) && decide (s.kn ≤ 1073741824) && kpOK s.kp s.w c.p && ahOK s.ah s.w c.w)
theorem e63 (N d : Nat) (hN : 1000 ≤ N) (c : Cf) (s : Sm) (hs : smL s) : TT N (d + 5) 63 [.agg (eC c), aS s] = some (bV (rightB c s), []) := by
  have hz := fun d => e98 N d s
  have he := fun d => QA.e45 N d s.e
  have hc := fun d => QA.e46 N d s.w
  have hk := fun d => e99 N d s.kp s.w c.p (by omega) (by omega)
  have ha := fun d => AA.e89 N d s.ah s.w c.w (by omega) (by omega)
  rw [t63, F_ev rfl]
  simp only [hz, he, hc, hk, ha, n01, j63, b63, q63, qq, ww, List.replicate, Nat.reduceBEq, Nat.reduceAdd, Nat.reduceMul, Nat.reduceDiv, Nat.reduceEqDiff, Nat.reduceLeDiff, Nat.reduceLT, Int.reduceEq, Int.reduceNe, Int.reduceLT, Int.reduceLE, Int.reduceAdd, Int.reduceSub, Int.reduceMul, Int.reduceNeg, Int.reduceToNat, reduceCtorEq, reduceIte, if_true, if_false]
  repeat' (refine fin_cases (fun h1 => ?_) (fun h1 => ?_) <;> simp only [h1, hz, he, hc, hk, ha, n01, j63, b63, q63, qq, ww, List.replicate, Nat.reduceBEq, Nat.reduceAdd, Nat.reduceMul, Nat.reduceDiv, Nat.reduceEqDiff, Nat.reduceLeDiff, Nat.reduceLT, Int.reduceEq, Int.reduceNe, Int.reduceLT, Int.reduceLE, Int.reduceAdd, Int.reduceSub, Int.reduceMul, Int.reduceNeg, Int.reduceToNat, reduceCtorEq, reduceIte, if_true, if_false])
  all_goals first
    | (simp_all [rightB]; done)
    | (simp_all [rightB]; intros; omega)
def flowC (c : Cf) (s : Sm) (q : List Ev) : Int := if okC c then (if rightB c s && qOK q c.q then 0 else 1) else 13
theorem e21 (N d : Nat) (hN : 1000 ≤ N) (c : Cf) (s : Sm) (q : List Ev) (hs : smL s) (hq : q.length < 900) : TT N (d + 11) 21 [.agg (eC c), aS s, .one (rE q)] = some (iV (flowC c s q), []) := by
  have h1 := fun d => EC.e62 N d c (by omega)
  have h2 := fun d => e63 N d hN c s hs
  have h3 := fun d => QA.e64 N d q c.q (by omega) (by omega)
  rw [t21, F_ev rfl]
  cases hc : okC c with
  | false =>
    rw [hc] at h1
    simp only [flowC, hc, h1, j21, b21, q21, qq, ww, List.replicate, Nat.reduceBEq, Nat.reduceAdd, Nat.reduceMul, Nat.reduceDiv, Nat.reduceEqDiff, Nat.reduceLeDiff, Nat.reduceLT, Int.reduceEq, Int.reduceNe, Int.reduceLT, Int.reduceLE, Int.reduceAdd, Int.reduceSub, Int.reduceMul, Int.reduceNeg, Int.reduceToNat, reduceCtorEq, reduceIte, if_true, if_false]
  | true =>
  rw [hc] at h1
  cases hr : rightB c s with
  | false =>
    rw [hr] at h2
    simp only [flowC, hc, hr, h1, h2, j21, b21, q21, qq, ww, List.replicate, Nat.reduceBEq, Nat.reduceAdd, Nat.reduceMul, Nat.reduceDiv, Nat.reduceEqDiff, Nat.reduceLeDiff, Nat.reduceLT, Int.reduceEq, Int.reduceNe, Int.reduceLT, Int.reduceLE, Int.reduceAdd, Int.reduceSub, Int.reduceMul, Int.reduceNeg, Int.reduceToNat, reduceCtorEq, reduceIte, if_true, if_false]
    try rfl
  | true =>
  rw [hr] at h2
  cases hq : qOK q c.q <;> rw [hq] at h3 <;> simp only [flowC, hc, hr, hq, h1, h2, h3, j21, b21, q21, qq, ww, List.replicate, Nat.reduceBEq, Nat.reduceAdd, Nat.reduceMul, Nat.reduceDiv, Nat.reduceEqDiff, Nat.reduceLeDiff, Nat.reduceLT, Int.reduceEq, Int.reduceNe, Int.reduceLT, Int.reduceLE, Int.reduceAdd, Int.reduceSub, Int.reduceMul, Int.reduceNeg, Int.reduceToNat, reduceCtorEq, reduceIte, if_true, if_false] <;> try rfl
theorem e47 (N d : Nat) (at_ next : Int) : TT N (d + 1) 47 [iV at_, iV next] = some (aS ⟨at_, next, next, [], []⟩, []) := by
  rw [t47, F_ev rfl]
  simp only [j47, b47, q47, qq, ww, List.replicate, Nat.reduceBEq, Nat.reduceAdd, Nat.reduceMul, Nat.reduceDiv, Nat.reduceEqDiff, Nat.reduceLeDiff, Nat.reduceLT, Int.reduceEq, Int.reduceNe, Int.reduceLT, Int.reduceLE, Int.reduceAdd, Int.reduceSub, Int.reduceMul, Int.reduceNeg, Int.reduceToNat, reduceCtorEq, reduceIte, if_true, if_false]
  repeat' (refine fin_cases (fun h1 => ?_) (fun h1 => ?_) <;> simp only [h1, j47, b47, q47, qq, ww, List.replicate, Nat.reduceBEq, Nat.reduceAdd, Nat.reduceMul, Nat.reduceDiv, Nat.reduceEqDiff, Nat.reduceLeDiff, Nat.reduceLT, Int.reduceEq, Int.reduceNe, Int.reduceLT, Int.reduceLE, Int.reduceAdd, Int.reduceSub, Int.reduceMul, Int.reduceNeg, Int.reduceToNat, reduceCtorEq, reduceIte, if_true, if_false])
  all_goals rfl
theorem e65 (N d : Nat) (at_ next : Int) : TT N (d + 1) 65 [iV at_, iV next] = some (aS ⟨at_, next, next, [], []⟩, []) := by
  rw [t65, F_ev rfl]
  simp only [j65, b65, q65, qq, ww, List.replicate, Nat.reduceBEq, Nat.reduceAdd, Nat.reduceMul, Nat.reduceDiv, Nat.reduceEqDiff, Nat.reduceLeDiff, Nat.reduceLT, Int.reduceEq, Int.reduceNe, Int.reduceLT, Int.reduceLE, Int.reduceAdd, Int.reduceSub, Int.reduceMul, Int.reduceNeg, Int.reduceToNat, reduceCtorEq, reduceIte, if_true, if_false]
  repeat' (refine fin_cases (fun h1 => ?_) (fun h1 => ?_) <;> simp only [h1, j65, b65, q65, qq, ww, List.replicate, Nat.reduceBEq, Nat.reduceAdd, Nat.reduceMul, Nat.reduceDiv, Nat.reduceEqDiff, Nat.reduceLeDiff, Nat.reduceLT, Int.reduceEq, Int.reduceNe, Int.reduceLT, Int.reduceLE, Int.reduceAdd, Int.reduceSub, Int.reduceMul, Int.reduceNeg, Int.reduceToNat, reduceCtorEq, reduceIte, if_true, if_false])
  all_goals rfl
theorem e48 (N d : Nat) (s : Sm) (hs : smL s) : TT N (d + 2) 48 [aS s] = some (aS s, []) := by
  have h1 := fun d => AA.e85 N d s.kp (by omega)
  have h2 := fun d => AA.e85 N d s.ah (by omega)
  rw [t48, F_ev rfl]
  simp only [h1, h2, takeT, List.length_map, j48, b48, q48, qq, ww, List.replicate, Nat.reduceBEq, Nat.reduceAdd, Nat.reduceMul, Nat.reduceDiv, Nat.reduceEqDiff, Nat.reduceLeDiff, Nat.reduceLT, Int.reduceEq, Int.reduceNe, Int.reduceLT, Int.reduceLE, Int.reduceAdd, Int.reduceSub, Int.reduceMul, Int.reduceNeg, Int.reduceToNat, reduceCtorEq, reduceIte, if_true, if_false]
theorem e10 (N d : Nat) (s : Sm) (hs : smL s) : TT N (d + 2) 10 [aS s] = some (aS s, []) := by
  have h1 := fun d => AA.e44 N d s.kp (by omega)
  have h2 := fun d => AA.e44 N d s.ah (by omega)
  rw [t10, F_ev rfl]
  simp only [h1, h2, takeT, List.length_map, j10, b10, q10, qq, ww, List.replicate, Nat.reduceBEq, Nat.reduceAdd, Nat.reduceMul, Nat.reduceDiv, Nat.reduceEqDiff, Nat.reduceLeDiff, Nat.reduceLT, Int.reduceEq, Int.reduceNe, Int.reduceLT, Int.reduceLE, Int.reduceAdd, Int.reduceSub, Int.reduceMul, Int.reduceNeg, Int.reduceToNat, reduceCtorEq, reduceIte, if_true, if_false]
theorem eq_sm {a b : Sm} : decide (a = b) = (decide (a.e = b.e) && (decide (a.w = b.w) && (decide (a.kn = b.kn) && (decide (a.kp = b.kp) && decide (a.ah = b.ah))))) := by
  obtain ⟨a1, a2, a3, a4, a5⟩ := a
  obtain ⟨b1, b2, b3, b4, b5⟩ := b
  simp
theorem e16 (N d : Nat) (hN : 1000 ≤ N) (a b : Sm) (ha : smL a) : TT N (d + 2) 16 [aS a, aS b] = some (bV (decide (a = b)), []) := by
  have h1 := fun d => AA.e26 N d a.kp b.kp (by omega) (by omega)
  have h2 := fun d => AA.e26 N d a.ah b.ah (by omega) (by omega)
  rw [t16, F_ev rfl]
  simp only [h1, h2, j16, b16, q16, qq, ww, List.replicate, Nat.reduceBEq, Nat.reduceAdd, Nat.reduceMul, Nat.reduceDiv, Nat.reduceEqDiff, Nat.reduceLeDiff, Nat.reduceLT, Int.reduceEq, Int.reduceNe, Int.reduceLT, Int.reduceLE, Int.reduceAdd, Int.reduceSub, Int.reduceMul, Int.reduceNeg, Int.reduceToNat, reduceCtorEq, reduceIte, if_true, if_false]
  repeat' (refine fin_cases (fun g => ?_) (fun g => ?_) <;> simp only [g, h1, h2, j16, b16, q16, qq, ww, List.replicate, Nat.reduceBEq, Nat.reduceAdd, Nat.reduceMul, Nat.reduceDiv, Nat.reduceEqDiff, Nat.reduceLeDiff, Nat.reduceLT, Int.reduceEq, Int.reduceNe, Int.reduceLT, Int.reduceLE, Int.reduceAdd, Int.reduceSub, Int.reduceMul, Int.reduceNeg, Int.reduceToNat, reduceCtorEq, reduceIte, if_true, if_false])
  all_goals (rw [eq_sm]; simp_all)
theorem e103 (N d : Nat) (l : List It) (want lim v : Int) (hlim : 1 ≤ lim ∧ lim ≤ 16) (hl : l.length < 1000) : TT N (d + 1) 103 [.one (rT l), iV want, iV lim, iV v] = some (.one (rT (pushL l want lim v)), []) := by
  have hby0 : l.length * 16 ≤ 140737488355328 := by omega
  have hby : (l.length + 1) * 16 ≤ 140737488355328 := by omega
  have hws : IntKind.i64.wrap (((l.length + 1 : Nat) : Int) - lim) = ((l.length + 1 : Nat) : Int) - lim := IntWalk.i64_in _ (by omega)
  have hmx : (if (0 : Int) > ((l.length + 1 : Nat) : Int) - lim then 0 else ((l.length + 1 : Nat) : Int) - lim) = ((l.length + 1 - lim.toNat : Nat) : Int) := by split <;> omega
  have hb1 : 0 ≤ ((l.length + 1 - lim.toNat : Nat) : Int) ∧ ((l.length + 1 - lim.toNat : Nat) : Int) ≤ ((l.length + 1 : Nat) : Int) := by omega
  generalize hK : l.length + 1 - lim.toNat = k at *
  have hdrop : ((l.map eT ++ [eT (⟨want, v⟩ : It)]).drop k) = (pushL l want lim v).map eT := by
    rw [pushL, hK, ← List.map_singleton, ← List.map_append, List.map_drop]
  have hpl : (pushL l want lim v).length = l.length + 1 - k := by simp [pushL, hK]
  have htk : List.take (l.length + 1 - k) ((pushL l want lim v).map eT) = (pushL l want lim v).map eT := List.take_of_length_le (by rw [List.length_map]; omega)
  have hne : ((k : Int) = ((l.length + 1 : Nat) : Int)) = False := eq_false (by omega)
  have htk1 : List.take (l.length + 1) (l.map eT ++ [eT (⟨want, v⟩ : It)]) = l.map eT ++ [eT (⟨want, v⟩ : It)] := List.take_of_length_le (by simp)
  have hall : (l.map eT ++ [eT (⟨want, v⟩ : It)]).all (fun x => x.length == 2) = true := by simp
  rw [t103, F_ev rfl]
  simp only [hby0, hby, hws, hmx, hb1.1, hb1.2, hdrop, htk, htk1, hne, hpl, takeT, allT, hall, List.length_map, List.length_append, List.length_cons, List.length_nil, Int.toNat_natCast, Nat.zero_add, List.take_length, j103, b103, q103, qq, ww, List.replicate, Nat.reduceBEq, Nat.reduceAdd, Nat.reduceMul, Nat.reduceDiv, Nat.reduceEqDiff, Nat.reduceLeDiff, Nat.reduceLT, Int.reduceEq, Int.reduceNe, Int.reduceLT, Int.reduceLE, Int.reduceAdd, Int.reduceSub, Int.reduceMul, Int.reduceNeg, Int.reduceToNat, reduceCtorEq, reduceIte, if_true, if_false]
end Go.Proofs.YtkfcbpbnoeaheaaGreatDoor.FA
namespace Go.Proofs.YtkfcbpbnoeaheaaGreatDoor.GA
open Go Go.Proofs.YtkfcbpbnoeaheaaGreatDoorR IG
open QA (Ev eE aE rE epOK evOK qOK putE n01)
open AA (It eT aT rT wi takeT allT)
open EC (Cf eC okC)
open FA (Sm eS aS s0 smL flowC rightB)
open KA (Kd eK aK rK nr okT okN kOK inB gap takeK all3)
set_option maxRecDepth 100000
set_option maxHeartbeats 4000000
def risP (t : Int) : Int → List Int → Bool
  | _, [] => true
  | p, x :: r => nr t x p && risP t x r
theorem e132 (N d : Nat) (t self : Int) (l : List Int) (hN : l.length < N) (hl : l.length < 1000000) : TT N (d + 6) 132 [iV t, iV self, .one (rI l)] = some (bV (risP t self l), []) := by
  have hn := fun d a b => KA.e129 N d t a b
  rw [t132, F_ev rfl]
  simp only [List.length_map, j132, b132, q132, qq, ww, List.replicate, Nat.reduceBEq, Nat.reduceAdd, Nat.reduceMul, Nat.reduceDiv, Nat.reduceEqDiff, Nat.reduceLeDiff, Nat.reduceLT, Int.reduceEq, Int.reduceNe, Int.reduceLT, Int.reduceLE, Int.reduceAdd, Int.reduceSub, Int.reduceMul, Int.reduceNeg, Int.reduceToNat, reduceCtorEq, reduceIte, if_true, if_false]
  refine loopI (K := fun o => fin _ (aft _ _ _ o)) (I := fun i st => ∃ p, st = ⟨[(0, iV t), (1, iV p), (9, .one (rI l)), (10, iV l.length), (11, iV i)], []⟩ ∧ risP t self l = risP t p (l.drop i)) _ l.length ?hr l.length 0 N _ ⟨[(0, iV t), (1, iV self), (9, .one (rI l)), (10, iV l.length), (11, iV 0)], []⟩ (by omega) (by omega) ?hk ⟨self, rfl, rfl⟩
  case hk => simp only [gcK, lowB, Nat.reduceLeDiff, Nat.reduceBEq, List.contains_nil, List.contains_cons, Bool.or_false, Bool.false_or, Bool.false_eq_true, if_false, Bool.true_and, Bool.and_true, pickL, look_hit, look_miss, look_end, slMent, hpMent, S.ment, S.ment.smt, ments, V.ment, List.append_nil, List.nil_append, List.cons_append, List.all_nil, List.all_cons, Option.isSome_some, Bool.and_self, if_true, reduceIte, Nat.reduceEqDiff, not_false_eq_true, reduceCtorEq, Nat.reduceMul, Nat.reduceAdd]; try rfl
  case hr =>
    rintro i n st hi ⟨p, rfl, hp⟩ ih
    (try dsimp only)
    by_cases hlt : i < l.length
    · have h1 : decide ((i : Int) < (l.length : Int)) = true := by simp; omega
      have hget : (l.map eI)[i]? = some (eI l[i]) := by simp [hlt]
      have hd : l.drop i = l[i] :: l.drop (i + 1) := by simp
      have hb : 0 ≤ (i : Int) ∧ (i : Int) < (l.length : Int) := by omega
      rw [hd, risP] at hp
      cases h2 : nr t l[i] p with
      | false =>
        rw [h2, Bool.false_and] at hp
        simp only [h1, hb.1, hb.2, List.length_map, Int.toNat_natCast, hget, hn, h2, hp, j132, b132, q132, qq, ww, List.replicate, Nat.reduceBEq, Nat.reduceAdd, Nat.reduceMul, Nat.reduceDiv, Nat.reduceEqDiff, Nat.reduceLeDiff, Nat.reduceLT, Int.reduceEq, Int.reduceNe, Int.reduceLT, Int.reduceLE, Int.reduceAdd, Int.reduceSub, Int.reduceMul, Int.reduceNeg, Int.reduceToNat, reduceCtorEq, reduceIte, if_true, if_false]
      | true =>
        rw [h2, Bool.true_and] at hp
        simp only [h1, hb.1, hb.2, List.length_map, Int.toNat_natCast, hget, hn, h2, wi i (by omega), j132, b132, q132, qq, ww, List.replicate, Nat.reduceBEq, Nat.reduceAdd, Nat.reduceMul, Nat.reduceDiv, Nat.reduceEqDiff, Nat.reduceLeDiff, Nat.reduceLT, Int.reduceEq, Int.reduceNe, Int.reduceLT, Int.reduceLE, Int.reduceAdd, Int.reduceSub, Int.reduceMul, Int.reduceNeg, Int.reduceToNat, reduceCtorEq, reduceIte, if_true, if_false]
        exact ih hlt _ _ (by simp only [gcK, lowB, Nat.reduceLeDiff, Nat.reduceBEq, List.contains_nil, List.contains_cons, Bool.or_false, Bool.false_or, Bool.false_eq_true, if_false, Bool.true_and, Bool.and_true, pickL, look_hit, look_miss, look_end, slMent, hpMent, S.ment, S.ment.smt, ments, V.ment, List.append_nil, List.nil_append, List.cons_append, List.all_nil, List.all_cons, Option.isSome_some, Bool.and_self, if_true, reduceIte, Nat.reduceEqDiff, not_false_eq_true, reduceCtorEq, Nat.reduceMul, Nat.reduceAdd]) ⟨_, rfl, hp⟩
    · have h1 : decide ((i : Int) < (l.length : Int)) = false := by simp; omega
      rw [List.drop_of_length_le (by omega), risP] at hp
      simp only [h1, hp, j132, b132, q132, qq, ww, List.replicate, Nat.reduceBEq, Nat.reduceAdd, Nat.reduceMul, Nat.reduceDiv, Nat.reduceEqDiff, Nat.reduceLeDiff, Nat.reduceLT, Int.reduceEq, Int.reduceNe, Int.reduceLT, Int.reduceLE, Int.reduceAdd, Int.reduceSub, Int.reduceMul, Int.reduceNeg, Int.reduceToNat, reduceCtorEq, reduceIte, if_true, if_false]
def pthC (t self : Int) (l : List Int) (depth : Int) : Int := if okT t && okN self && inB depth 1 8 && l.all okN then (if (l.length : Int) > depth then 12 else if risP t self l then 0 else 1) else 1
theorem e110 (N d : Nat) (t self : Int) (l : List Int) (depth : Int) (hN : l.length < N) (hl : l.length < 1000000) : TT N (d + 7) 110 [iV t, iV self, .one (rI l), iV depth] = some (iV (pthC t self l depth), []) := by
  have ha : ∀ d, TT N (d + 6) 131 [.one (rI l)] = some (bV (l.all okN), []) := fun d => MA.e131 N d l hN hl
  have hr := fun d => e132 N d t self l hN hl
  rw [t110, F_ev rfl]
  unfold pthC
  cases h0 : (okT t && okN self) with
  | false =>
    simp only [KA.e130f _ _ h0, h0, Bool.false_and, List.length_map, j110, b110, q110, qq, ww, List.replicate, Nat.reduceBEq, Nat.reduceAdd, Nat.reduceMul, Nat.reduceDiv, Nat.reduceEqDiff, Nat.reduceLeDiff, Nat.reduceLT, Int.reduceEq, Int.reduceNe, Int.reduceLT, Int.reduceLE, Int.reduceAdd, Int.reduceSub, Int.reduceMul, Int.reduceNeg, Int.reduceToNat, reduceCtorEq, reduceIte, if_true, if_false]
    try rfl
  | true =>
  have h4 := Bool.and_eq_true_iff.1 h0
  simp only [KA.e130t _ _ h4.1 h4.2, ha, hr, List.length_map, j110, b110, q110, qq, ww, List.replicate, Nat.reduceBEq, Nat.reduceAdd, Nat.reduceMul, Nat.reduceDiv, Nat.reduceEqDiff, Nat.reduceLeDiff, Nat.reduceLT, Int.reduceEq, Int.reduceNe, Int.reduceLT, Int.reduceLE, Int.reduceAdd, Int.reduceSub, Int.reduceMul, Int.reduceNeg, Int.reduceToNat, reduceCtorEq, reduceIte, if_true, if_false]
  by_cases g1 : depth < 1
  · have : inB depth 1 8 = false := by simp [inB]; omega
    simp only [decide_eq_true g1, this, Bool.and_false, Bool.false_and, j110, b110, q110, qq, ww, List.replicate, Nat.reduceBEq, Nat.reduceAdd, Nat.reduceMul, Nat.reduceDiv, Nat.reduceEqDiff, Nat.reduceLeDiff, Nat.reduceLT, Int.reduceEq, Int.reduceNe, Int.reduceLT, Int.reduceLE, Int.reduceAdd, Int.reduceSub, Int.reduceMul, Int.reduceNeg, Int.reduceToNat, reduceCtorEq, reduceIte, if_true, if_false]
    try rfl
  by_cases g2 : depth > 8
  · have : inB depth 1 8 = false := by simp [inB]; omega
    simp only [decide_eq_false g1, decide_eq_true g2, this, Bool.and_false, Bool.false_and, j110, b110, q110, qq, ww, List.replicate, Nat.reduceBEq, Nat.reduceAdd, Nat.reduceMul, Nat.reduceDiv, Nat.reduceEqDiff, Nat.reduceLeDiff, Nat.reduceLT, Int.reduceEq, Int.reduceNe, Int.reduceLT, Int.reduceLE, Int.reduceAdd, Int.reduceSub, Int.reduceMul, Int.reduceNeg, Int.reduceToNat, reduceCtorEq, reduceIte, if_true, if_false]
    try rfl
  have h5 : inB depth 1 8 = true := by simp [inB]; omega
  cases g3 : l.all okN with
  | false =>
    simp only [decide_eq_false g1, decide_eq_false g2, ha, g3, h5, Bool.and_false, Bool.true_and, j110, b110, q110, qq, ww, List.replicate, Nat.reduceBEq, Nat.reduceAdd, Nat.reduceMul, Nat.reduceDiv, Nat.reduceEqDiff, Nat.reduceLeDiff, Nat.reduceLT, Int.reduceEq, Int.reduceNe, Int.reduceLT, Int.reduceLE, Int.reduceAdd, Int.reduceSub, Int.reduceMul, Int.reduceNeg, Int.reduceToNat, reduceCtorEq, reduceIte, if_true, if_false]
    try rfl
  | true =>
  by_cases g4 : (l.length : Int) > depth
  · simp only [decide_eq_false g1, decide_eq_false g2, ha, g3, h5, g4, decide_eq_true g4, Bool.true_and, if_true, List.length_map, j110, b110, q110, qq, ww, List.replicate, Nat.reduceBEq, Nat.reduceAdd, Nat.reduceMul, Nat.reduceDiv, Nat.reduceEqDiff, Nat.reduceLeDiff, Nat.reduceLT, Int.reduceEq, Int.reduceNe, Int.reduceLT, Int.reduceLE, Int.reduceAdd, Int.reduceSub, Int.reduceMul, Int.reduceNeg, Int.reduceToNat, reduceCtorEq, reduceIte, if_true, if_false]
  cases g5 : risP t self l with
  | false =>
    simp only [decide_eq_false g1, decide_eq_false g2, ha, hr, g3, h5, g4, g5, decide_eq_false g4, Bool.true_and, if_true, if_false, List.length_map, j110, b110, q110, qq, ww, List.replicate, Nat.reduceBEq, Nat.reduceAdd, Nat.reduceMul, Nat.reduceDiv, Nat.reduceEqDiff, Nat.reduceLeDiff, Nat.reduceLT, Int.reduceEq, Int.reduceNe, Int.reduceLT, Int.reduceLE, Int.reduceAdd, Int.reduceSub, Int.reduceMul, Int.reduceNeg, Int.reduceToNat, reduceCtorEq, reduceIte, if_true, if_false]
    try rfl
  | true =>
    simp only [decide_eq_false g1, decide_eq_false g2, ha, hr, g3, h5, g4, g5, decide_eq_false g4, Bool.true_and, if_true, if_false, List.length_map, j110, b110, q110, qq, ww, List.replicate, Nat.reduceBEq, Nat.reduceAdd, Nat.reduceMul, Nat.reduceDiv, Nat.reduceEqDiff, Nat.reduceLeDiff, Nat.reduceLT, Int.reduceEq, Int.reduceNe, Int.reduceLT, Int.reduceLE, Int.reduceAdd, Int.reduceSub, Int.reduceMul, Int.reduceNeg, Int.reduceToNat, reduceCtorEq, reduceIte, if_true, if_false]
end Go.Proofs.YtkfcbpbnoeaheaaGreatDoor.GA
namespace Go.Proofs.YtkfcbpbnoeaheaaGreatDoor.FA
open Go Go.Proofs.YtkfcbpbnoeaheaaGreatDoorR IG
open QA (Ev eE aE rE inB epOK evOK qOK putE n01)
open AA (It eT aT rT ahOK addA leftL wi wm takeT allT take_s hR pre cP)
open EC (Cf eC okC)
set_option maxRecDepth 100000
set_option maxHeartbeats 4000000
abbrev kV (c : Cf) (s : Sm) (sub : Bool) (q : List Ev) (z : V) : List V := [.int .i64 c.n, .int .i64 c.t, .int .i64 c.k, .int .i64 c.d, .int .i64 c.p, .int .i64 c.w, .int .i64 c.q, .int .i64 s.e, .int .i64 s.w, .int .i64 s.kn, rT s.kp, rT s.ah, .bool sub, rE q, z]
theorem begin_ok (N d : Nat) (hN : 1000 ≤ N) (c : Cf) (s : Sm) (sub : Bool) (q : List Ev) (hs : smL s) (hq : q.length < 900) (h : flowC c s q = 0) :
    TT N (d + 12) 49 [.agg (eC c), aS s, bV sub, .one (rE q)] = some (.tup [.one (.ref 15 0 0), iV 0], [(14, .rows 29 2 []), (15, .box (kV c s sub q (.sl 14 0 0)))]) := by
  have h0 := fun d => e21 N d hN c s q hs hq
  have h1 := fun d => e48 N d s hs
  have h2 := fun d => QA.e86 N d q (by omega)
  rw [h] at h0
  rw [t49, F_ev rfl]
  simp only [h0, h1, h2, QA.tk, List.length_map, j49, b49, q49, qq, ww, List.replicate, Nat.reduceBEq, Nat.reduceAdd, Nat.reduceMul, Nat.reduceDiv, Nat.reduceEqDiff, Nat.reduceLeDiff, Nat.reduceLT, Int.reduceEq, Int.reduceNe, Int.reduceLT, Int.reduceLE, Int.reduceAdd, Int.reduceSub, Int.reduceMul, Int.reduceNeg, Int.reduceToNat, reduceCtorEq, reduceIte, if_true, if_false]
theorem begin_no (N d : Nat) (hN : 1000 ≤ N) (c : Cf) (s : Sm) (sub : Bool) (q : List Ev) (hs : smL s) (hq : q.length < 900) (h : flowC c s q ≠ 0) :
    TT N (d + 12) 49 [.agg (eC c), aS s, bV sub, .one (rE q)] = some (.tup [.one (.k (.pointer none)), iV (flowC c s q)], []) := by
  have h0 := fun d => e21 N d hN c s q hs hq
  rw [t49, F_ev rfl]
  simp only [h0, decide_eq_false h, j49, b49, q49, qq, ww, List.replicate, Nat.reduceBEq, Nat.reduceAdd, Nat.reduceMul, Nat.reduceDiv, Nat.reduceEqDiff, Nat.reduceLeDiff, Nat.reduceLT, Int.reduceEq, Int.reduceNe, Int.reduceLT, Int.reduceLE, Int.reduceAdd, Int.reduceSub, Int.reduceMul, Int.reduceNeg, Int.reduceToNat, reduceCtorEq, reduceIte, if_true, if_false]
  try rfl
theorem e50 (N d : Nat) (n : Int) : TT N (d + 1) 50 [iV n] = some (bV (inB n 1 1073741823), []) := by
  rw [t50, F_ev rfl]
  simp only [j50, b50, q50, qq, ww, List.replicate, Nat.reduceBEq, Nat.reduceAdd, Nat.reduceMul, Nat.reduceDiv, Nat.reduceEqDiff, Nat.reduceLeDiff, Nat.reduceLT, Int.reduceEq, Int.reduceNe, Int.reduceLT, Int.reduceLE, Int.reduceAdd, Int.reduceSub, Int.reduceMul, Int.reduceNeg, Int.reduceToNat, reduceCtorEq, reduceIte, if_true, if_false]
  repeat' (refine fin_cases (fun h1 => ?_) (fun h1 => ?_) <;> simp only [h1, j50, b50, q50, qq, ww, List.replicate, Nat.reduceBEq, Nat.reduceAdd, Nat.reduceMul, Nat.reduceDiv, Nat.reduceEqDiff, Nat.reduceLeDiff, Nat.reduceLT, Int.reduceEq, Int.reduceNe, Int.reduceLT, Int.reduceLE, Int.reduceAdd, Int.reduceSub, Int.reduceMul, Int.reduceNeg, Int.reduceToNat, reduceCtorEq, reduceIte, if_true, if_false])
  all_goals grind [inB]
end Go.Proofs.YtkfcbpbnoeaheaaGreatDoor.FA
namespace Go.Proofs.YtkfcbpbnoeaheaaGreatDoor.FA
open Go Go.Proofs.YtkfcbpbnoeaheaaGreatDoorR IG
open QA (Ev eE aE rE inB epOK evOK qOK putE n01)
open AA (It eT aT rT ahOK addA leftL wi wm takeT allT take_s hR pre cP)
open EC (Cf eC okC)
set_option maxRecDepth 100000
set_option maxHeartbeats 4000000
abbrev kT (c : Cf) (s : Sm) (sub : Bool) (q : List Ev) (on : List It) : S := .tup [.agg (kV c s sub q (.sl 1 0 on.length)), hR 29 2 (on.map eT)]
abbrev kH (c : Cf) (s : Sm) (sub : Bool) (q : List Ev) (on : List It) : Hp := [(0, .box (kV c s sub q (.sl 1 0 on.length))), (1, .rows 29 2 (on.map eT))]
theorem e55 (N d : Nat) (hN : 1000 ≤ N) (c : Cf) (s : Sm) (sub : Bool) (q : List Ev) (on : List It) (x : Ev) (hq : q.length < 900) :
    TT N (d + 13) 55 [.one (.ref 0 0 0), aE x, kT c s sub q on] = some (.tup [], kH c s sub (if sub then fitE q c.q x else q) on) := by
  have h1 := fun d => e94 N d q c.q x (by omega) (by omega)
  rw [t55, F_evo rfl rfl (by simp)]
  cases sub <;> simp only [h1, List.length_map, j55, b55, q55, qq, ww, List.replicate, Nat.reduceBEq, Nat.reduceAdd, Nat.reduceMul, Nat.reduceDiv, Nat.reduceEqDiff, Nat.reduceLeDiff, Nat.reduceLT, Int.reduceEq, Int.reduceNe, Int.reduceLT, Int.reduceLE, Int.reduceAdd, Int.reduceSub, Int.reduceMul, Int.reduceNeg, Int.reduceToNat, reduceCtorEq, reduceIte, if_true, if_false]
def oneS (c : Cf) (s : Sm) (v : Int) : Sm := ⟨s.e, s.w + 1, if s.w + 1 > s.kn then s.w + 1 else s.kn, (pushP s.kp s.w c.p v).1, s.ah⟩
def oneQ (c : Cf) (s : Sm) (sub : Bool) (q : List Ev) (v : Int) : List Ev := if sub then fitE q c.q ⟨1, s.e, s.w, 0, v, 0⟩ else q
theorem e52 (N d : Nat) (hN : 1000 ≤ N) (c : Cf) (s : Sm) (sub : Bool) (q : List Ev) (on : List It) (v : Int) (hs : smL s) (hq : q.length < 900) (hon : on.length < 900) (hw : 0 ≤ s.w ∧ s.w ≤ 1073741824) :
    TT N (d + 14) 52 [.one (.ref 0 0 0), iV v, kT c s sub q on] = some (.tup [], kH c (oneS c s v) sub (oneQ c s sub q v) (on ++ [⟨s.w, v⟩])) := by
  have h1 := fun d => e87 N d s.kp s.w c.p v (by omega) (by omega)
  have h2 := fun d => e55 N d hN c ⟨s.e, s.w, s.kn, (pushP s.kp s.w c.p v).1, s.ah⟩ sub q on ⟨1, s.e, s.w, 0, v, 0⟩ hq
  dsimp only [kT, kH, kV] at h2
  have hq2 : oneQ c s sub q v = (if sub = true then fitE q c.q ⟨1, s.e, s.w, 0, v, 0⟩ else q) := rfl
  rw [hq2]
  generalize hG : (if sub = true then fitE q c.q ⟨1, s.e, s.w, 0, v, 0⟩ else q) = q' at *
  have htk : List.take (on.length + 1) (on.map eT ++ [eT (⟨s.w, v⟩ : It)]) = on.map eT ++ [eT (⟨s.w, v⟩ : It)] := List.take_of_length_le (by simp)
  have hwi : IntKind.i64.wrap (s.w + 1) = s.w + 1 := IntWalk.i64_in _ (by omega)
  have hby : (on.length + 1) * 16 ≤ 140737488355328 := by omega
  rw [t52, F_evo rfl rfl (by simp)]
  simp only [h1, h2, hwi, hby, htk, oneS, kH, kV, takeT, List.length_map, j52, b52, q52, qq, ww, List.replicate, Nat.reduceBEq, Nat.reduceAdd, Nat.reduceMul, Nat.reduceDiv, Nat.reduceEqDiff, Nat.reduceLeDiff, Nat.reduceLT, Int.reduceEq, Int.reduceNe, Int.reduceLT, Int.reduceLE, Int.reduceAdd, Int.reduceSub, Int.reduceMul, Int.reduceNeg, Int.reduceToNat, reduceCtorEq, reduceIte, if_true, if_false]
end Go.Proofs.YtkfcbpbnoeaheaaGreatDoor.FA
namespace Go.Proofs.YtkfcbpbnoeaheaaGreatDoor.FA
open Go Go.Proofs.YtkfcbpbnoeaheaaGreatDoorR IG
open QA (Ev eE aE rE inB epOK evOK qOK putE n01)
open AA (It eT aT rT ahOK addA leftL wi wm takeT allT take_s hR pre cP)
open EC (Cf eC okC)
set_option maxRecDepth 100000
set_option maxHeartbeats 4000000
def foldK (c : Cf) (sub : Bool) : List It → Sm → List Ev → List It → Sm × List Ev × List It
  | [], s, q, on => (s, q, on)
  | x :: r, s, q, on => foldK c sub r (oneS c s x.v) (oneQ c s sub q x.v) (on ++ [⟨s.w, x.v⟩])
theorem pushP_len (l : List It) (want lim v : Int) : (pushP l want lim v).1.length ≤ 16 := by
  unfold pushP
  split
  · simp
  · split
    · simp
    · rename_i h _
      have h : kpOK l want lim = true ∧ inB v 0 2147483647 = true := by simpa using h
      have : 1 ≤ lim ∧ lim ≤ 16 ∧ (l.length : Int) ≤ lim := by have := h.1; simp [kpOK, inB] at this; omega
      simp [pushL]
      omega
theorem oneS_len {c : Cf} {s : Sm} {v : Int} (hs : smL s) : smL (oneS c s v) := by
  have := pushP_len s.kp s.w c.p v
  exact ⟨by show (pushP s.kp s.w c.p v).1.length < 900; omega, hs.2⟩
theorem oneQ_len (c : Cf) (s : Sm) (sub : Bool) (q : List Ev) (v : Int) : (oneQ c s sub q v).length ≤ q.length + 1 := by
  unfold oneQ
  split
  · exact fitE_len _ _ _
  · omega
abbrev cut (s : Sm) : Nat := pre (cP s.w) (leftL s.w s.ah) 0
def moreK (c : Cf) (sub : Bool) (s : Sm) (q : List Ev) (on : List It) : Sm × List Ev × List It :=
  let r := foldK c sub ((leftL s.w s.ah).take (cut s)) s q on
  (⟨r.1.e, r.1.w, r.1.kn, r.1.kp, (leftL s.w s.ah).drop (cut s)⟩, r.2.1, r.2.2)
theorem e53 (N d : Nat) (hN : 1000 ≤ N) (c : Cf) (s : Sm) (sub : Bool) (q : List Ev) (on : List It) (hs : smL s) (hq : q.length + s.ah.length < 900) (hon : on.length + s.ah.length < 900) (hw : 0 ≤ s.w ∧ s.w + cut s ≤ 1073741825) :
    TT N (d + 15) 53 [.one (.ref 0 0 0), kT c s sub q on] = some (.tup [], kH c (moreK c sub s q on).1 sub (moreK c sub s q on).2.1 (moreK c sub s q on).2.2) := by
  have h1 := fun d => AA.e88 N d s.ah s.w (by omega) (by omega)
  have hll : (leftL s.w s.ah).length ≤ s.ah.length := List.length_filter_le _ _
  have hcut := AA.pre_le (cP s.w) (leftL s.w s.ah) 0
  unfold moreK
  dsimp only
  generalize hrest : (leftL s.w s.ah).drop (cut s) = rest at *
  generalize hL : (leftL s.w s.ah).take (cut s) = L at *
  have hLl : L.length ≤ s.ah.length := by rw [← hL, List.length_take]; omega
  have hLc : L.length ≤ cut s := by rw [← hL, List.length_take]; omega
  rw [t53, F_evo rfl rfl (by simp)]
  simp only [h1, hrest, hL, List.length_map, j53, b53, q53, qq, ww, List.replicate, Nat.reduceBEq, Nat.reduceAdd, Nat.reduceMul, Nat.reduceDiv, Nat.reduceEqDiff, Nat.reduceLeDiff, Nat.reduceLT, Int.reduceEq, Int.reduceNe, Int.reduceLT, Int.reduceLE, Int.reduceAdd, Int.reduceSub, Int.reduceMul, Int.reduceNeg, Int.reduceToNat, reduceCtorEq, reduceIte, if_true, if_false]
  refine loopI (K := fun o => finG _ _ (aft _ _ _ o)) (I := fun i st => ∃ s' q' on', st = ⟨[(0, .one (.ref 0 0 0)), (3, .one (rT rest)), (20, .one (rT L)), (21, iV L.length), (22, iV i)], [(0, .box (kV c s' sub q' (.sl 1 0 on'.length))), (0, .box (kV c s' sub q' (.sl 1 0 on'.length))), (1, .rows 29 2 (on'.map eT)), (1, .rows 29 2 (on'.map eT))]⟩ ∧ foldK c sub (L.drop i) s' q' on' = foldK c sub L s q on ∧ smL s' ∧ q'.length ≤ q.length + i ∧ on'.length ≤ on.length + i ∧ s'.w = s.w + i) _ L.length ?hr L.length 0 N _ ⟨[(0, .one (.ref 0 0 0)), (3, .one (rT rest)), (20, .one (rT L)), (21, iV L.length), (22, iV 0)], [(0, .box (kV c s sub q (.sl 1 0 on.length))), (0, .box (kV c s sub q (.sl 1 0 on.length))), (1, .rows 29 2 (on.map eT)), (1, .rows 29 2 (on.map eT))]⟩ (by omega) (by omega) ?hk ⟨s, q, on, rfl, rfl, hs, by omega, by omega, by omega⟩
  case hk => simp only [gcK, lowB, Nat.reduceLeDiff, Nat.reduceBEq, List.contains_nil, List.contains_cons, Bool.or_false, Bool.false_or, Bool.false_eq_true, if_false, Bool.true_and, Bool.and_true, pickL, look_hit, look_miss, look_end, slMent, hpMent, S.ment, S.ment.smt, ments, V.ment, List.append_nil, List.nil_append, List.cons_append, List.all_nil, List.all_cons, Option.isSome_some, Bool.and_self, if_true, reduceIte, Nat.reduceEqDiff, not_false_eq_true, reduceCtorEq, Nat.reduceMul, Nat.reduceAdd]
  case hr =>
    rintro i n st hi ⟨s', q', on', rfl, hf, hs', hq', hon', hw'⟩ ih
    (try dsimp only)
    by_cases hlt : i < L.length
    · have h1 : decide ((i : Int) < (L.length : Int)) = true := by simp; omega
      have hg1 : (L.map eT)[i]? = some (eT L[i]) := by simp [hlt]
      have hd1 : L.drop i = L[i] :: L.drop (i + 1) := by simp
      have hb : 0 ≤ (i : Int) ∧ (i : Int) < (L.length : Int) := by omega
      have ho := fun d => e52 N d hN c s' sub q' on' L[i].v hs' (by omega) (by omega) (by omega)
      dsimp only [kT, kH, kV] at ho
      rw [hd1, foldK] at hf
      simp only [h1, hb.1, hb.2, hg1, ho, wi i (by omega), kV, List.length_map, Int.toNat_natCast, j53, b53, q53, qq, ww, List.replicate, Nat.reduceBEq, Nat.reduceAdd, Nat.reduceMul, Nat.reduceDiv, Nat.reduceEqDiff, Nat.reduceLeDiff, Nat.reduceLT, Int.reduceEq, Int.reduceNe, Int.reduceLT, Int.reduceLE, Int.reduceAdd, Int.reduceSub, Int.reduceMul, Int.reduceNeg, Int.reduceToNat, reduceCtorEq, reduceIte, if_true, if_false]
      have := oneQ_len c s' sub q' L[i].v
      refine ih hlt _ _ ?_ ⟨_, _, _, rfl, hf, oneS_len hs', by omega, by simp; omega, by show s'.w + 1 = _; omega⟩
      simp only [gcK, lowB, Nat.reduceLeDiff, Nat.reduceBEq, List.contains_nil, List.contains_cons, Bool.or_false, Bool.false_or, Bool.false_eq_true, if_false, Bool.true_and, Bool.and_true, pickL, look_hit, look_miss, look_end, slMent, hpMent, S.ment, S.ment.smt, ments, V.ment, List.append_nil, List.nil_append, List.cons_append, List.all_nil, List.all_cons, Option.isSome_some, Bool.and_self, if_true, reduceIte, Nat.reduceEqDiff, not_false_eq_true, reduceCtorEq, Nat.reduceMul, Nat.reduceAdd, kV, List.map_append, List.map_cons, List.map_nil, List.length_append, List.length_cons, List.length_nil, Nat.zero_add]
    · have h1 : decide ((i : Int) < (L.length : Int)) = false := by simp; omega
      rw [List.drop_of_length_le (by omega), foldK] at hf
      rw [← hf]
      simp only [h1, kH, kV, List.length_map, j53, b53, q53, qq, ww, List.replicate, Nat.reduceBEq, Nat.reduceAdd, Nat.reduceMul, Nat.reduceDiv, Nat.reduceEqDiff, Nat.reduceLeDiff, Nat.reduceLT, Int.reduceEq, Int.reduceNe, Int.reduceLT, Int.reduceLE, Int.reduceAdd, Int.reduceSub, Int.reduceMul, Int.reduceNeg, Int.reduceToNat, reduceCtorEq, reduceIte, if_true, if_false]
end Go.Proofs.YtkfcbpbnoeaheaaGreatDoor.FA
