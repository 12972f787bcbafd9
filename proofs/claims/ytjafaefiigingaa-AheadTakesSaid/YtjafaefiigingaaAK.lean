import Derived.Test.YtjafaefiigingaaAJ
set_option linter.unusedSimpArgs false
set_option linter.unusedVariables false
namespace Go.Proofs.Ytjafaefiigingaa.AA
open Go Go.Proofs.YtjafaefiigingaaR Go.Proofs.Ytjafaefiigingaa.IA
set_option maxRecDepth 100000
set_option maxHeartbeats 4000000
def hasK (W : Int) (l : List It) (k : Nat) : Bool := l.any fun y => decide (y.s = W + k)
def onR (W : Int) (l : List It) : List (List V) := (List.range 40).map fun k => [.bool (hasK W l k)]
structure OkL (W n : Int) (l : List It) : Prop where
  ah : ahOK l W n = true
  own : ∀ y ∈ l, y.s = W + y.v
theorem ins_anyp {x : It} (p : It → Bool) : ∀ {l m : List It}, ins x l = some m → m.any p = (p x || l.any p)
  | [], m, h => by simp [ins] at h; subst h; simp
  | z :: r, m, h => by
    unfold ins at h
    split at h
    · split at h
      · cases h
      · cases h; simp
    · cases ha : ins x r with
      | none => rw [ha] at h; cases h
      | some a' =>
        rw [ha] at h
        cases h
        rw [List.any_cons, ins_anyp p ha, List.any_cons]
        cases p z <;> cases p x <;> rfl
theorem ins_mem {x : It} : ∀ {l m : List It}, ins x l = some m → ∀ y ∈ m, y = x ∨ y ∈ l
  | [], m, h, y, hy => by simp [ins] at h; subst h; simp at hy; exact .inl hy
  | z :: r, m, h, y, hy => by
    unfold ins at h
    split at h
    · split at h
      · cases h
      · cases h
        rcases List.mem_cons.1 hy with h | h
        · exact .inl h
        · exact .inr h
    · cases ha : ins x r with
      | none => rw [ha] at h; cases h
      | some a' =>
        rw [ha] at h
        cases h
        rcases List.mem_cons.1 hy with h | h
        · exact .inr (by simp [h])
        · rcases ins_mem ha y h with h | h
          · exact .inl h
          · exact .inr (by simp [h])
theorem onR_len (W : Int) (l : List It) : (onR W l).length = 40 := by simp [onR]
theorem onR_get (W : Int) (l : List It) {k : Nat} (hk : k < 40) : (onR W l)[k]? = some [.bool (hasK W l k)] := by simp [onR, hk]
theorem onR_set {W : Int} {l m : List It} {k : Nat} (hk : k < 40) (h : ins ⟨W + k, k⟩ l = some m) : (onR W l).set k [.bool true] = onR W m := by
  apply List.ext_getElem?
  intro j
  by_cases hj : j < 40
  · rw [onR_get W m hj, List.getElem?_set]
    have h2 : hasK W m j = (decide (W + (k : Int) = W + j) || hasK W l j) := ins_anyp (fun y => decide (y.s = W + j)) h
    by_cases e : k = j
    · subst e
      rw [if_pos rfl, if_pos (by rw [onR_len]; omega), h2]
      simp
    · rw [if_neg e, onR_get W l hj, h2]
      have : decide (W + (k : Int) = W + j) = false := by simp; omega
      rw [this, Bool.false_or]
  · rw [List.getElem?_eq_none (by rw [List.length_set, onR_len]; omega), List.getElem?_eq_none (by rw [onR_len]; omega)]
theorem ins_some {x : It} {l : List It} (h : (l.any fun y => decide (y.s = x.s)) = false) : ∃ m, ins x l = some m := by
  obtain ⟨m, h1, _⟩ := stp_ins x l [] h
  exact ⟨m, h1⟩
theorem takes_step {W n : Int} {l : List It} (h : OkL W n l) (hW : 1 ≤ W ∧ W ≤ 1000) (hn : 1 ≤ n ∧ n ≤ 16) {k : Nat} (hk : k < 20) :
    ((k = 0 ∨ n ≤ k) ∧ addA l W n ⟨W + k, k⟩ = ([], 6)) ∨ (¬ (k = 0 ∨ n ≤ k) ∧ hasK W l k = true ∧ addA l W n ⟨W + k, k⟩ = ([], 8)) ∨
    (¬ (k = 0 ∨ n ≤ k) ∧ hasK W l k = false ∧ ∃ m, addA l W n ⟨W + k, k⟩ = (m, 0) ∧ m.length = l.length + 1 ∧ OkL W n m ∧ (onR W l).set k [.bool true] = onR W m) := by
  have hv : inB (k : Int) 0 2147483647 = true := by simp [inB]; omega
  by_cases hf : k = 0 ∨ n ≤ k
  · refine .inl ⟨hf, ?_⟩
    have : fitsB (W + k) W n = false := by simp [fitsB]; omega
    unfold addA
    rw [h.ah, hv, this]
    rfl
  · have hft : fitsB (W + k) W n = true := by simp [fitsB]; omega
    have hr : risB W n none l = true := by have := h.ah; simp only [ahOK, Bool.and_eq_true] at this; exact this.2
    cases hh : hasK W l k with
    | true => exact .inr (.inl ⟨hf, rfl, addA_no h.ah hft hv (ins_no hr hh)⟩)
    | false =>
      obtain ⟨m, hm⟩ := ins_some (x := ⟨W + k, k⟩) (l := l) hh
      refine .inr (.inr ⟨hf, rfl, m, addA_ok h.ah hft hv hm, ins_len hm, ⟨ah_ins h.ah hft hv hm, fun y hy => ?_⟩, onR_set (by omega) hm⟩)
      rcases ins_mem hm y hy with e | e
      · rw [e]
      · exact h.own y e
/-- What follows, of right items. -/
theorem ris_all {W n : Int} : ∀ {l : List It} {p : Option Int}, risB W n p l = true → ∀ y ∈ l, W < y.s ∧ y.s < W + n
  | [], p, _, y, hy => by simp at hy
  | z :: r, p, h, y, hy => by
    obtain ⟨g1, g2, g3, g4⟩ := ris_cons.1 h
    rcases List.mem_cons.1 hy with e | e
    · rw [e]
      simp only [fitsB, Bool.and_eq_true, decide_eq_true_eq] at g1
      exact g1.1
    · exact ris_all g4 y e
theorem left_all {W : Int} {l : List It} (h : ∀ y ∈ l, W ≤ y.s) : leftL W l = l := by
  unfold leftL
  rw [List.filter_eq_self]
  intro y hy
  simpa using h y hy
/-- Where the first ones follow one another, the next one is not there. -/
theorem pre_gap {W n : Int} (hW : 1 ≤ W ∧ W ≤ 1000) (hn : 1 ≤ n ∧ n ≤ 16) : ∀ {l : List It} {p : Option Int} {k : Nat}, risB W n p l = true → (∀ q, p = some q → q = W + k) → k ≤ 100 → (∀ y ∈ l, W + 1 + k ≤ y.s) →
    (∀ i, i < pre (cP (W + 1)) l k → ∃ y, l[i]? = some y ∧ y.s = W + 1 + (k + i : Nat)) ∧ hasK W l (1 + k + pre (cP (W + 1)) l k) = false ∧ ((k : Int) < n → ((k + pre (cP (W + 1)) l k : Nat) : Int) < n)
  | [], p, k, _, _, _, _ => ⟨fun i h => by simp [pre] at h, rfl, fun h => by simpa [pre] using h⟩
  | z :: r, p, k, h, hp, hk, hb => by
    obtain ⟨g1, g2, g3, g4⟩ := ris_cons.1 h
    simp only [fitsB, Bool.and_eq_true, decide_eq_true_eq] at g1
    have hz := hb z (by simp)
    have hc : cP (W + 1) z k = decide (z.s = W + 1 + k) := by
      unfold cP
      rw [IntWalk.i64_in _ (by omega)]
      congr 1
      apply propext
      constructor <;> intro h <;> omega
    have hgt := risB_gt g4
    unfold pre
    rw [hc]
    by_cases e : z.s = W + 1 + k
    · rw [if_pos (by simpa using e)]
      obtain ⟨i1, i2, i3⟩ := pre_gap hW hn (k := k + 1) g4 (fun q hq => by cases hq; omega) (by omega) (fun y hy => by have := hgt y hy; omega)
      refine ⟨fun i hi => ?_, ?_, fun h => ?_⟩
      · cases i with
        | zero => exact ⟨z, rfl, by simpa using e⟩
        | succ i =>
          obtain ⟨y, h1, h2⟩ := i1 i (by omega)
          exact ⟨y, by rw [List.getElem?_cons_succ]; exact h1, by omega⟩
      · unfold hasK at i2 ⊢
        rw [List.any_cons, show 1 + k + (pre (cP (W + 1)) r (k + 1) + 1) = 1 + (k + 1) + pre (cP (W + 1)) r (k + 1) by omega, i2, Bool.or_false]
        simp
        omega
      · have := i3 (by omega)
        omega
    · rw [if_neg (by simpa using e)]
      refine ⟨fun i hi => by omega, ?_, fun h => by omega⟩
      unfold hasK
      rw [Nat.add_zero, List.any_eq_false]
      intro y hy
      rcases List.mem_cons.1 hy with e2 | e2
      · rw [e2]; simp; omega
      · have := hgt y e2; simp; omega
theorem pre_none {W n : Int} (hW : 1 ≤ W ∧ W ≤ 1000) (hn : 1 ≤ n ∧ n ≤ 16) {l : List It} {p : Option Int} (h : risB W n p l = true) : pre (cP W) l 0 = 0 := by
  cases l with
  | nil => rfl
  | cons z r =>
    obtain ⟨g1, g2, g3, g4⟩ := ris_cons.1 h
    simp only [fitsB, Bool.and_eq_true, decide_eq_true_eq] at g1
    unfold pre
    rw [if_neg]
    unfold cP
    rw [IntWalk.i64_in _ (by omega)]
    simp
    omega
/-- Those that follow are there. -/
theorem pre_has {W n : Int} (hW : 1 ≤ W ∧ W ≤ 1000) (hn : 1 ≤ n ∧ n ≤ 16) {l : List It} (h : OkL W n l) : ∃ P, pre (cP (W + 1)) (leftL (W + 1) l) 0 = P ∧ leftL (W + 1) l = l ∧ leftL W l = l ∧ pre (cP W) l 0 = 0 ∧ P ≤ l.length ∧ P < 16 ∧
    (∀ i, i < P → l[i]? = some ⟨W + 1 + i, 1 + i⟩) ∧ (∀ i, i < P → hasK W l (i + 1) = true) ∧ hasK W l (P + 1) = false := by
  have hr : risB W n none l = true := by have := h.ah; simp only [ahOK, Bool.and_eq_true] at this; exact this.2
  have hall := ris_all hr
  have hl1 : leftL (W + 1) l = l := left_all fun y hy => by have := hall y hy; omega
  obtain ⟨i1, i2, i3⟩ := pre_gap hW hn (k := 0) hr (fun q hq => by cases hq) (by omega) (fun y hy => by have := hall y hy; omega)
  have hP := pre_le (cP (W + 1)) l 0
  refine ⟨_, rfl, hl1, left_all fun y hy => by have := hall y hy; omega, pre_none hW hn hr, ?_⟩
  rw [hl1]
  generalize pre (cP (W + 1)) l 0 = P at *
  have hget : ∀ i, i < P → l[i]? = some ⟨W + 1 + i, 1 + i⟩ := by
    intro i hi
    obtain ⟨y, h1, h3⟩ := i1 i hi
    have h2 := h.own _ (List.mem_of_getElem? h1)
    rw [h1]
    obtain ⟨a, b⟩ := y
    simp only at h2 h3
    congr 2
    · omega
    · omega
  refine ⟨hP, by have := i3 (by omega); omega, hget, fun i hi => ?_, by rw [Nat.add_comm P 1]; simpa using i2⟩
  unfold hasK
  rw [List.any_eq_true]
  exact ⟨_, List.mem_of_getElem? (hget i hi), by simp; omega⟩
theorem kmod (z m : Int) (hm : 0 < m) (hm2 : m < 1000000) : 0 ≤ IntKind.i64.wrap ((IntKind.u64.wrap z).tmod m) ∧ IntKind.i64.wrap ((IntKind.u64.wrap z).tmod m) < m := by
  have h : 0 ≤ IntKind.u64.wrap z := by
    simp [IntKind.wrap, IntKind.signed, IntKind.bits]
    omega
  have h1 := Int.tmod_nonneg m h
  have h2 := Int.tmod_lt_of_pos (IntKind.u64.wrap z) hm
  rw [IntWalk.i64_in _ (by omega)]
  exact ⟨h1, h2⟩
end Go.Proofs.Ytjafaefiigingaa.AA
