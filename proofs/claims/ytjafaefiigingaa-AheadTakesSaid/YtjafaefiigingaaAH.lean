import Derived.Test.YtjafaefiigingaaAG
set_option linter.unusedSimpArgs false
set_option linter.unusedVariables false
namespace Go.Proofs.Ytjafaefiigingaa.AA
open Go Go.Proofs.YtjafaefiigingaaR Go.Proofs.Ytjafaefiigingaa.IA
set_option maxRecDepth 100000
set_option maxHeartbeats 4000000
abbrev wf8 (n : Int) : Prop := (Lit.int .i64 n).wf = true
theorem wf8_b {n : Int} (h : wf8 n) : -9223372036854775808 ≤ n ∧ n ≤ 9223372036854775807 := by
  simp only [wf8, Lit.wf] at h
  simp [IntKind.min, IntKind.max, IntKind.signed, IntKind.bits] at h
  omega
theorem w0 : TT 1000 12 43 [] = some (bV true, []) := by kernel_rfl
theorem stp_true (x : It) : ∀ (l o : List It), l.foldl (stp x) (o, true) = (o ++ l, true)
  | [], o => by simp
  | y :: r, o => by
    rw [List.foldl_cons, show stp x (o, true) y = (o ++ [y], true) by simp [stp], stp_true x r]
    simp
theorem stp_ins (x : It) : ∀ (l o : List It), (l.any fun y => decide (y.s = x.s)) = false → ∃ m, ins x l = some m ∧ fnl x (l.foldl (stp x) (o, false)) = o ++ m
  | [], o, _ => ⟨[x], rfl, rfl⟩
  | y :: r, o, h => by
    rw [List.any_cons, Bool.or_eq_false_iff] at h
    have hne : ¬ y.s = x.s := by simpa using h.1
    by_cases hlt : x.s < y.s
    · refine ⟨x :: y :: r, ?_, ?_⟩
      · unfold ins
        rw [if_pos (by omega), if_neg hne]
      · rw [List.foldl_cons, show stp x (o, false) y = (o ++ [x] ++ [y], true) by simp [stp, hlt], stp_true]
        simp [fnl]
    · obtain ⟨m, h1, h2⟩ := stp_ins x r (o ++ [y]) h.2
      refine ⟨y :: m, ?_, ?_⟩
      · unfold ins
        rw [if_neg (by omega), h1]
        rfl
      · rw [List.foldl_cons, show stp x (o, false) y = (o ++ [y], false) by simp [stp, hlt], h2]
        simp
theorem risB_gt {want win : Int} : ∀ {l : List It} {p : Int}, risB want win (some p) l = true → ∀ y ∈ l, p < y.s
  | [], p, _, y, hy => by simp at hy
  | z :: r, p, h, y, hy => by
    simp only [risB, Bool.and_eq_true, decide_eq_true_eq] at h
    rcases List.mem_cons.1 hy with rfl | hy
    · exact h.1.2
    · have := risB_gt h.2 y hy
      omega
theorem ins_no {want win : Int} {x : It} : ∀ {l : List It} {p : Option Int}, risB want win p l = true → (l.any fun y => decide (y.s = x.s)) = true → ins x l = none
  | [], p, _, h => by simp at h
  | z :: r, p, h, h2 => by
    simp only [risB, Bool.and_eq_true] at h
    unfold ins
    rw [List.any_cons, Bool.or_eq_true] at h2
    rcases h2 with h2 | h2
    · have h3 : z.s = x.s := by simpa using h2
      rw [if_pos (by omega), if_pos h3]
    · have h4 : z.s < x.s := by
        obtain ⟨y, hy, he⟩ := List.any_eq_true.1 h2
        have := risB_gt h.2 y hy
        have he : y.s = x.s := by simpa using he
        omega
      rw [if_neg (by omega), ins_no h.2 h2]
      rfl
theorem add_eq {l : List It} {want win : Int} {x : It} (h1 : ahOK l want win = true) (h2 : inB x.v 0 2147483647 = true) (h3 : fitsB x.s want win = true) : addA l want win x = addR l x := by
  have hr : risB want win none l = true := by simp only [ahOK, Bool.and_eq_true] at h1; exact h1.2
  unfold addA addR
  rw [h1, h2, h3]
  cases h : l.any fun y => decide (y.s = x.s) with
  | true => rw [ins_no hr h]; rfl
  | false =>
    obtain ⟨m, h4, h5⟩ := stp_ins x l [] h
    rw [h4, h5]
    rfl
theorem ins_len {x : It} : ∀ {l m : List It}, ins x l = some m → m.length = l.length + 1
  | [], m, h => by simp [ins] at h; subst h; rfl
  | y :: r, m, h => by
    unfold ins at h
    split at h
    · split at h
      · simp at h
      · simp at h; subst h; rfl
    · cases hi : ins x r with
      | none => rw [hi] at h; simp at h
      | some q => rw [hi] at h; simp at h; subst h; simp [ins_len hi]
theorem addA_len (l : List It) (want win : Int) (x : It) : (addA l want win x).1.length ≤ l.length + 1 := by
  unfold addA
  split
  · simp
  · split
    · simp
    · split
      · simp
      · rename_i h
        simp [ins_len h]
theorem cPR {want : Int} (hw : wf8 want) {y : It} (hy : wf8 y.s) {k : Nat} (hk : k < 1000000) : cP want y k = cR want y k := by
  have a := wf8_b hw
  have b := wf8_b hy
  unfold cP cR
  congr 1
  simp [IntKind.wrap, IntKind.signed, IntKind.bits]
  omega
theorem pre_eq {want : Int} (hw : wf8 want) : ∀ {l : List It} {k : Nat}, (∀ y ∈ l, wf8 y.s) → k + l.length < 1000000 → pre (cP want) l k = pre (cR want) l k
  | [], k, _, _ => rfl
  | y :: r, k, h, hk => by
    simp only [List.length_cons] at hk
    unfold pre
    rw [cPR hw (h y (by simp)) (by omega), pre_eq hw (fun z hz => h z (by simp [hz])) (by omega)]
theorem left_wf {want : Int} {l : List It} (h : ∀ y ∈ l, wf8 y.s) : ∀ y ∈ leftL want l, wf8 y.s := fun y hy => h y (List.mem_filter.1 hy).1
theorem pre_same {want : Int} (hw : wf8 want) {l : List It} (h : ∀ y ∈ l, wf8 y.s) (hl : l.length < 1000000) : pre (cR want) (leftL want l) 0 = pre (cP want) (leftL want l) 0 := by
  have : (leftL want l).length ≤ l.length := List.length_filter_le _ _
  exact (pre_eq hw (left_wf h) (by omega)).symm
end Go.Proofs.Ytjafaefiigingaa.AA
