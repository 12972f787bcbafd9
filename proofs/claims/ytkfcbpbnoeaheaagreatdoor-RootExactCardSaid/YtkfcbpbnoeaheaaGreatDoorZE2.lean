/- Texts joined: FF FG FH FI FJ FK FL GB GC GD FP FQ GE EE FT L5 GF. -/
import Derived.Test.YtkfcbpbnoeaheaaGreatDoorZE1
import Derived.Test.YtkfcbpbnoeaheaaGreatDoorProg
set_option linter.unusedVariables false
set_option linter.unusedSimpArgs false
namespace Go.Proofs.YtkfcbpbnoeaheaaGreatDoor.FA
open Go Go.Proofs.YtkfcbpbnoeaheaaGreatDoorR IG
open QA (Ev eE aE rE inB epOK evOK qOK putE n01)
open AA (It eT aT rT ahOK addA leftL wi wm takeT allT take_s hR pre cP risB fitsB)
open EC (Cf eC okC)
set_option maxRecDepth 100000
set_option maxHeartbeats 4000000
theorem ris_len {want win : Int} : ∀ {l : List It} {p : Int}, risB want win (some p) l = true → l ≠ [] → p + l.length < want + win ∧ p + l.length < 1073741824
  | [], p, _, h => absurd rfl h
  | [x], p, h, _ => by
    simp only [risB, fitsB, Bool.and_eq_true, decide_eq_true_eq] at h
    simp only [List.length_cons, List.length_nil]
    omega
  | x :: y :: r, p, h, _ => by
    rw [risB] at h
    simp only [fitsB, Bool.and_eq_true, decide_eq_true_eq] at h
    have := ris_len h.2 (by simp)
    simp only [List.length_cons] at this ⊢
    omega
theorem ris_none {want win : Int} {l : List It} (h : risB want win none l = true) : risB want win (some want) l = true := by
  cases l with
  | nil => rfl
  | cons x r =>
    simp only [risB, fitsB, Bool.and_eq_true, decide_eq_true_eq, and_true] at h ⊢
    simp_all
theorem ah_len {l : List It} {want win : Int} (h : ahOK l want win = true) : l.length ≤ 15 ∧ (l ≠ [] → want + l.length < 1073741824) := by
  simp only [ahOK, AA.inB, Bool.and_eq_true, decide_eq_true_eq] at h
  by_cases hl : l = []
  · subst hl; simp
  · have := ris_len (ris_none h.2) hl
    exact ⟨by omega, fun _ => this.2⟩
theorem flow_t {c : Cf} {s : Sm} {q : List Ev} (h : flowC c s q = 0) : okC c = true ∧ rightB c s = true ∧ qOK q c.q = true := by
  unfold flowC at h
  split at h
  · split at h
    · rename_i h1 h2
      simp only [Bool.and_eq_true] at h2
      exact ⟨h1, h2.1, h2.2⟩
    · cases h
  · cases h
theorem flow_of {c : Cf} {s : Sm} {q : List Ev} (h1 : okC c = true) (h2 : rightB c s = true) (h3 : qOK q c.q = true) : flowC c s q = 0 := by
  unfold flowC
  rw [if_pos h1, h2, h3]; rfl
theorem right_t {c : Cf} {s : Sm} (h : rightB c s = true) : s.kp.length ≤ 16 ∧ s.ah.length ≤ 15 ∧ 0 ≤ s.w ∧ s.w ≤ 1073741824 ∧ s.w ≤ s.kn ∧ s.kn ≤ 1073741824 ∧ (s.ah ≠ [] → s.w + s.ah.length < 1073741824) ∧ 0 ≤ s.e ∧ s.e ≤ 1073741824 := by
  unfold rightB at h
  rw [Bool.or_eq_true] at h
  rcases h with h | h
  · rw [zeroB_iff] at h; subst h; simp
  · simp only [Bool.and_eq_true, decide_eq_true_eq] at h
    obtain ⟨⟨⟨⟨⟨h1, h2⟩, h3⟩, h4⟩, h5⟩, h6⟩ := h
    have ha := ah_len h6
    simp only [kpOK, inB, Bool.and_eq_true, decide_eq_true_eq] at h2 h5
    simp only [epOK, inB, Bool.and_eq_true, decide_eq_true_eq] at h1
    exact ⟨by omega, ha.1, by omega, by omega, h3, h4, ha.2, by omega, by omega⟩
theorem q_t {q : List Ev} {n : Int} (h : qOK q n = true) : q.length ≤ 32 ∧ 2 ≤ n ∧ n ≤ 32 ∧ (q.length : Int) ≤ n := by
  simp [qOK] at h; omega
def itemG (c : Cf) (s1 : Sm) (sub : Bool) (q : List Ev) (old : Bool) (x : It) : Sm × List Ev × List It :=
  if (old || decide (x.s < s1.w)) = true then (s1, q, [])
  else if x.s = s1.w then moreK c sub (oneS c s1 x.v) (oneQ c s1 sub q x.v) [⟨s1.w, x.v⟩]
  else (⟨s1.e, s1.w, if x.s + 1 > s1.kn then x.s + 1 else s1.kn, s1.kp, if (addA s1.ah s1.w c.w x).2 = 0 then (addA s1.ah s1.w c.w x).1 else s1.ah⟩, q, [])
def itemP (c : Cf) (s : Sm) (sub : Bool) (q : List Ev) (at_ : Int) (x : It) : (Sm × List Ev × List It) × Int :=
  if flowC c s q = 0 then
    if (epOK at_ && inB x.s 1 1073741823 && inB x.v 0 2147483647) = true then
      (itemG c (if at_ > s.e then ⟨at_, x.s, x.s, [], []⟩ else s) sub q (decide (at_ < s.e)) x, 0)
    else ((s0, [], []), 1)
  else ((s0, [], []), flowC c s q)
abbrev fA (r : (Sm × List Ev × List It) × Int) : S := .tup [aS r.1.1, .one (rE r.1.2.1), .one (rT r.1.2.2), iV r.2]
theorem e13 (N d : Nat) (hN : 1000 ≤ N) (c : Cf) (s : Sm) (sub : Bool) (q : List Ev) (at_ : Int) (x : It) (hs : smL s) (hq : q.length < 900) :
    ans (TT N (d + 16) 13 [.agg (eC c), aS s, bV sub, .one (rE q), iV at_, aT x]) = some (fA (itemP c s sub q at_ x)) := by
  have h3 := fun d => QA.e45 N d at_
  have h4 := fun d => e50 N d x.s
  have h5 := fun d => QA.e51 N d x.v
  rw [t13, F_ev rfl]
  unfold itemP
  by_cases g0 : flowC c s q = 0
  case neg =>
    rw [if_neg g0]
    have hb := fun d => begin_no N d hN c s sub q hs hq g0
    simp only [hb, decide_eq_false g0, j13, b13, q13, qq, ww, List.replicate, Nat.reduceBEq, Nat.reduceAdd, Nat.reduceMul, Nat.reduceDiv, Nat.reduceEqDiff, Nat.reduceLeDiff, Nat.reduceLT, Int.reduceEq, Int.reduceNe, Int.reduceLT, Int.reduceLE, Int.reduceAdd, Int.reduceSub, Int.reduceMul, Int.reduceNeg, Int.reduceToNat, reduceCtorEq, reduceIte, if_true, if_false]
    try rfl
  rw [if_pos g0]
  have hb := fun d => begin_ok N d hN c s sub q hs hq g0
  dsimp only [kV] at hb
  cases g3 : epOK at_ with
  | false =>
    rw [g3] at h3
    rw [if_neg (by simp)]
    simp only [hb, h3, List.map_nil, j13, b13, q13, qq, ww, List.replicate, Nat.reduceBEq, Nat.reduceAdd, Nat.reduceMul, Nat.reduceDiv, Nat.reduceEqDiff, Nat.reduceLeDiff, Nat.reduceLT, Int.reduceEq, Int.reduceNe, Int.reduceLT, Int.reduceLE, Int.reduceAdd, Int.reduceSub, Int.reduceMul, Int.reduceNeg, Int.reduceToNat, reduceCtorEq, reduceIte, if_true, if_false]
    try rfl
  | true =>
  rw [g3] at h3
  cases g4 : inB x.s 1 1073741823 with
  | false =>
    rw [g4] at h4
    rw [if_neg (by simp)]
    simp only [hb, h3, h4, List.map_nil, j13, b13, q13, qq, ww, List.replicate, Nat.reduceBEq, Nat.reduceAdd, Nat.reduceMul, Nat.reduceDiv, Nat.reduceEqDiff, Nat.reduceLeDiff, Nat.reduceLT, Int.reduceEq, Int.reduceNe, Int.reduceLT, Int.reduceLE, Int.reduceAdd, Int.reduceSub, Int.reduceMul, Int.reduceNeg, Int.reduceToNat, reduceCtorEq, reduceIte, if_true, if_false]
    try rfl
  | true =>
  rw [g4] at h4
  cases g5 : inB x.v 0 2147483647 with
  | false =>
    rw [g5] at h5
    rw [if_neg (by simp)]
    simp only [hb, h3, h4, h5, List.map_nil, j13, b13, q13, qq, ww, List.replicate, Nat.reduceBEq, Nat.reduceAdd, Nat.reduceMul, Nat.reduceDiv, Nat.reduceEqDiff, Nat.reduceLeDiff, Nat.reduceLT, Int.reduceEq, Int.reduceNe, Int.reduceLT, Int.reduceLE, Int.reduceAdd, Int.reduceSub, Int.reduceMul, Int.reduceNeg, Int.reduceToNat, reduceCtorEq, reduceIte, if_true, if_false]
    try rfl
  | true =>
  rw [g5] at h5
  rw [if_pos (by decide)]
  obtain ⟨k1, k2, k3⟩ := flow_t g0
  have k4 := right_t k2
  have k5 := q_t k3
  have k6 : 1 ≤ x.s ∧ x.s ≤ 1073741823 := by simpa [inB] using g4
  have hone := fun (s1 : Sm) (h : smL s1) (hw : 0 ≤ s1.w ∧ s1.w ≤ 1073741824) d => e52 N d hN c s1 sub q [] x.v h (by omega) (by simp) hw
  have hmore := fun (s1 : Sm) (h : smL s1) (ha : s1.ah.length ≤ 15) (hw : 0 ≤ s1.w ∧ s1.w + 1 + s1.ah.length ≤ 1073741824) d =>
    e53 N d hN c (oneS c s1 x.v) sub (oneQ c s1 sub q x.v) [⟨s1.w, x.v⟩] (oneS_len h) (by have := oneQ_len c s1 sub q x.v; show _ + s1.ah.length < 900; omega) (by show 1 + s1.ah.length < 900; omega) (by have h1 := AA.pre_le (cP (s1.w + 1)) (leftL (s1.w + 1) s1.ah) 0; have h2 : (leftL (s1.w + 1) s1.ah).length ≤ s1.ah.length := List.length_filter_le _ _; show 0 ≤ s1.w + 1 ∧ s1.w + 1 + (pre (cP (s1.w + 1)) (leftL (s1.w + 1) s1.ah) 0 : Int) ≤ _; omega)
  by_cases g1 : at_ > s.e
  · rw [if_pos g1]
    have n1 : decide (at_ < s.e) = false := by simp; omega
    have ho := hone ⟨at_, x.s, x.s, [], []⟩ (by simp) (by simp; omega)
    have hm := hmore ⟨at_, x.s, x.s, [], []⟩ (by simp) (by simp) (by simp; omega)
    simp only [kT, kH, kV, List.length_nil, List.map_nil, List.nil_append, List.length_cons, List.map_cons, Nat.zero_add] at ho hm
    unfold itemG
    rw [if_neg (by simp; omega), if_pos rfl]
    have n2 : decide (x.s < x.s) = false := by simp
    have hbg := fun d => e47 N d at_ x.s
    dsimp only at hbg ho hm ⊢
    generalize moreK c sub (oneS c ⟨at_, x.s, x.s, [], []⟩ x.v) (oneQ c ⟨at_, x.s, x.s, [], []⟩ sub q x.v) [⟨x.s, x.v⟩] = r at *
    simp only [hb, h3, h4, h5, hbg, ho, hm, n1, n2, decide_eq_true g1, decide_true, takeT, fA, List.map_nil, List.length_map, j13, b13, q13, qq, ww, List.replicate, Nat.reduceBEq, Nat.reduceAdd, Nat.reduceMul, Nat.reduceDiv, Nat.reduceEqDiff, Nat.reduceLeDiff, Nat.reduceLT, Int.reduceEq, Int.reduceNe, Int.reduceLT, Int.reduceLE, Int.reduceAdd, Int.reduceSub, Int.reduceMul, Int.reduceNeg, Int.reduceToNat, reduceCtorEq, reduceIte, if_true, if_false]
  rw [if_neg g1]
  by_cases g2 : at_ < s.e
  · unfold itemG
    rw [if_pos (by simp [g2])]
    simp only [hb, h3, h4, h5, decide_eq_false g1, decide_eq_true g2, takeT, fA, List.map_nil, List.length_map, j13, b13, q13, qq, ww, List.replicate, Nat.reduceBEq, Nat.reduceAdd, Nat.reduceMul, Nat.reduceDiv, Nat.reduceEqDiff, Nat.reduceLeDiff, Nat.reduceLT, Int.reduceEq, Int.reduceNe, Int.reduceLT, Int.reduceLE, Int.reduceAdd, Int.reduceSub, Int.reduceMul, Int.reduceNeg, Int.reduceToNat, reduceCtorEq, reduceIte, if_true, if_false]
    try rfl
  by_cases g6 : x.s < s.w
  · unfold itemG
    rw [if_pos (by simp [g6])]
    simp only [hb, h3, h4, h5, decide_eq_false g1, decide_eq_false g2, decide_eq_true g6, takeT, fA, List.map_nil, List.length_map, j13, b13, q13, qq, ww, List.replicate, Nat.reduceBEq, Nat.reduceAdd, Nat.reduceMul, Nat.reduceDiv, Nat.reduceEqDiff, Nat.reduceLeDiff, Nat.reduceLT, Int.reduceEq, Int.reduceNe, Int.reduceLT, Int.reduceLE, Int.reduceAdd, Int.reduceSub, Int.reduceMul, Int.reduceNeg, Int.reduceToNat, reduceCtorEq, reduceIte, if_true, if_false]
    try rfl
  by_cases g7 : x.s = s.w
  · have ho := hone s hs (by omega)
    have hm := hmore s hs k4.2.1 (by
      by_cases h : s.ah = []
      · rw [h]; simp; omega
      · have := k4.2.2.2.2.2.2.1 h; omega)
    simp only [kT, kH, kV, List.length_nil, List.map_nil, List.nil_append, List.length_cons, List.map_cons, Nat.zero_add] at ho hm
    unfold itemG
    rw [if_neg (by simp; omega), if_pos g7]
    generalize moreK c sub (oneS c s x.v) (oneQ c s sub q x.v) [⟨s.w, x.v⟩] = r at *
    simp only [hb, h3, h4, h5, ho, hm, decide_eq_false g1, decide_eq_false g2, decide_eq_false g6, decide_eq_true g7, takeT, fA, List.map_nil, List.length_map, j13, b13, q13, qq, ww, List.replicate, Nat.reduceBEq, Nat.reduceAdd, Nat.reduceMul, Nat.reduceDiv, Nat.reduceEqDiff, Nat.reduceLeDiff, Nat.reduceLT, Int.reduceEq, Int.reduceNe, Int.reduceLT, Int.reduceLE, Int.reduceAdd, Int.reduceSub, Int.reduceMul, Int.reduceNeg, Int.reduceToNat, reduceCtorEq, reduceIte, if_true, if_false]
  · have ha := fun d => AA.e54 N d s.ah s.w c.w x (by omega) (by omega)
    have hwx : IntKind.i64.wrap (x.s + 1) = x.s + 1 := IntWalk.i64_in _ (by omega)
    unfold itemG
    rw [if_neg (by simp; omega), if_neg g7]
    generalize addA s.ah s.w c.w x = a at *
    obtain ⟨m, e⟩ := a
    dsimp only at ha ⊢
    by_cases g8 : e = 0
    · rw [if_pos g8]
      simp only [hb, h3, h4, h5, ha, hwx, decide_eq_false g1, decide_eq_false g2, decide_eq_false g6, decide_eq_false g7, decide_eq_true g8, takeT, fA, List.map_nil, List.length_map, j13, b13, q13, qq, ww, List.replicate, Nat.reduceBEq, Nat.reduceAdd, Nat.reduceMul, Nat.reduceDiv, Nat.reduceEqDiff, Nat.reduceLeDiff, Nat.reduceLT, Int.reduceEq, Int.reduceNe, Int.reduceLT, Int.reduceLE, Int.reduceAdd, Int.reduceSub, Int.reduceMul, Int.reduceNeg, Int.reduceToNat, reduceCtorEq, reduceIte, if_true, if_false]
      try rfl
    · rw [if_neg g8]
      simp only [hb, h3, h4, h5, ha, hwx, decide_eq_false g1, decide_eq_false g2, decide_eq_false g6, decide_eq_false g7, decide_eq_false g8, takeT, fA, List.map_nil, List.length_map, j13, b13, q13, qq, ww, List.replicate, Nat.reduceBEq, Nat.reduceAdd, Nat.reduceMul, Nat.reduceDiv, Nat.reduceEqDiff, Nat.reduceLeDiff, Nat.reduceLT, Int.reduceEq, Int.reduceNe, Int.reduceLT, Int.reduceLE, Int.reduceAdd, Int.reduceSub, Int.reduceMul, Int.reduceNeg, Int.reduceToNat, reduceCtorEq, reduceIte, if_true, if_false]
      try rfl
end Go.Proofs.YtkfcbpbnoeaheaaGreatDoor.FA
namespace Go.Proofs.YtkfcbpbnoeaheaaGreatDoor.FA
open Go Go.Proofs.YtkfcbpbnoeaheaaGreatDoorR IG
open QA (Ev eE aE rE inB epOK evOK qOK putE n01 gapE lastK)
open AA (It eT aT rT ahOK addA leftL wi wm takeT allT take_s hR pre cP risB fitsB)
open EC (Cf eC okC)
set_option maxRecDepth 100000
set_option maxHeartbeats 4000000
theorem ris_mem {want win : Int} : ∀ {l : List It} {p : Option Int}, risB want win p l = true → ∀ y ∈ l, want < y.s ∧ y.s < 1073741824 ∧ inB y.v 0 2147483647 = true
  | [], _, _, y, hy => by cases hy
  | x :: r, p, h, y, hy => by
    have h : fitsB x.s want win = true ∧ inB x.v 0 2147483647 = true ∧ risB want win (some x.s) r = true := by
      cases p <;> simp only [risB, Bool.and_eq_true] at h
      · exact ⟨h.1.1.1, h.1.1.2, h.2⟩
      · exact ⟨h.1.1.1, h.1.1.2, h.2⟩
    simp only [fitsB, Bool.and_eq_true, decide_eq_true_eq] at h
    rcases List.mem_cons.1 hy with rfl | hy
    · exact ⟨h.1.1.1, h.1.2, h.2.1⟩
    · exact ris_mem h.2.2 y hy
theorem right_ah {c : Cf} {s : Sm} (h : rightB c s = true) : ∀ y ∈ s.ah, s.w < y.s ∧ y.s < 1073741824 ∧ inB y.v 0 2147483647 = true := by
  unfold rightB at h
  rw [Bool.or_eq_true] at h
  rcases h with h | h
  · rw [zeroB_iff] at h; subst h; simp
  · simp only [Bool.and_eq_true, decide_eq_true_eq, ahOK] at h
    exact ris_mem h.2.2
end Go.Proofs.YtkfcbpbnoeaheaaGreatDoor.FA
namespace Go.Proofs.YtkfcbpbnoeaheaaGreatDoor.FA
open Go Go.Proofs.YtkfcbpbnoeaheaaGreatDoorR IG
open QA (Ev eE aE rE inB epOK evOK qOK putE n01 gapE lastK)
open AA (It eT aT rT ahOK addA leftL wi wm takeT allT take_s hR pre cP risB fitsB)
open EC (Cf eC okC)
set_option maxRecDepth 100000
set_option maxHeartbeats 4000000
theorem evOK_data {e s v : Int} (he : epOK e = true) (hs : 1 ≤ s ∧ s ≤ 1073741824) (hv : inB v 0 2147483647 = true) : evOK ⟨1, e, s, 0, v, 0⟩ = true := by
  have : inB s 1 1073741824 = true := by simp [inB]; omega
  simp [evOK, he, this, hv]
theorem evOK_gap {e s l : Int} (he : epOK e = true) (hs : 1 ≤ s) (hl : s ≤ l ∧ l ≤ 1073741824) : evOK ⟨2, e, s, l, 0, 0⟩ = true := by
  have h1 : inB s 1 1073741824 = true := by simp [inB]; omega
  have h2 : inB l s 1073741824 = true := by simp [inB]; omega
  simp [evOK, he, h1, h2]
theorem evOK_2 {x : Ev} (h : evOK x = true) (hk : x.k = 2) : epOK x.e = true ∧ 1 ≤ x.s ∧ x.s ≤ x.l ∧ x.l ≤ 1073741824 ∧ x.v = 0 ∧ x.c = 0 := by
  simp [evOK, hk, inB] at h
  simp [h]
theorem gap_ok {x g : Ev} (hx : evOK x = true) (hg : gapE x = some g) : g.k = 2 ∧ evOK g = true := by
  unfold gapE at hg
  split at hg
  · rename_i hk
    cases hg
    simp [evOK, hk, inB] at hx
    exact ⟨rfl, evOK_gap (by simp [hx]) (by omega) (by omega)⟩
  · split at hg
    · rename_i hk
      cases hg
      exact ⟨hk, hx⟩
    · cases hg
theorem lastK_app (l : List Ev) (y : Ev) : lastK (l ++ [y]) = y.k := by simp [lastK]
theorem q_fit {l : List Ev} {n : Int} {x : Ev} (hq : qOK l n = true) (hx : evOK x = true) : qOK (fitE l n x) n = true := by
  have hq0 := hq
  simp only [qOK, Bool.and_eq_true, Bool.or_eq_true, Bool.not_eq_true', decide_eq_true_eq, decide_eq_false_iff_not] at hq
  obtain ⟨⟨⟨⟨h1, h2⟩, h3⟩, h4⟩, h5⟩ := hq
  unfold fitE
  by_cases g1 : (l.length : Int) < n - 1
  · rw [show putE l n x = (0, l ++ [x]) by simp only [putE, hq0, hx, Bool.and_self, if_true, if_pos g1]]
    simp only [if_true, qOK, List.length_append, List.length_cons, List.length_nil, List.all_append, List.all_cons, List.all_nil, h4, hx, Bool.and_true, Bool.and_eq_true, Bool.or_eq_true, Bool.not_eq_true', decide_eq_true_eq, decide_eq_false_iff_not]
    exact ⟨⟨⟨h1, h2⟩, by omega⟩, .inl (by omega)⟩
  cases hg : gapE x with
  | none => rw [show putE l n x = (6, []) by simp only [putE, hq0, hx, hg, Bool.and_self, if_true, if_neg g1]]; exact hq0
  | some g =>
    obtain ⟨k1, k2⟩ := gap_ok hx hg
    by_cases g2 : (l.length : Int) < n
    · rw [show putE l n x = (0, l ++ [g]) by simp only [putE, hq0, hx, hg, Bool.and_self, if_true, if_neg g1, if_pos g2]]
      simp only [if_true, qOK, List.length_append, List.length_cons, List.length_nil, List.all_append, List.all_cons, List.all_nil, h4, k2, lastK_app, k1, Bool.and_true, Bool.and_eq_true, Bool.or_eq_true, Bool.not_eq_true', decide_eq_true_eq, decide_eq_false_iff_not]
      first | exact ⟨⟨⟨h1, h2⟩, by omega⟩, .inr rfl⟩ | exact ⟨⟨h1, h2⟩, by omega⟩ | (simp; omega)
    · have hlen : (l.length : Int) = n := by omega
      have hne : l ≠ [] := fun e => by subst e; simp at hlen; omega
      obtain ⟨m, y, rfl⟩ : ∃ m y, l = m ++ [y] := ⟨l.dropLast, l.getLast hne, (List.dropLast_concat_getLast hne).symm⟩
      have g1' : ¬ ((m.length : Int) + 1 < n - 1) := by simp at hlen; omega
      have g2' : ¬ ((m.length : Int) + 1 < n) := by simp at hlen; omega
      by_cases g3 : g.e = y.e ∧ g.s = y.l + 1
      · rw [show putE (m ++ [y]) n x = (0, (m ++ [y]).dropLast ++ [{ y with l := g.l }]) by simp [putE, hq0, hx, hg, g1', g2', g3]]
        have hy : y.k = 2 := by
          rcases h5 with h | h
          · exact absurd hlen h
          · rwa [lastK_app] at h
        have hyok : evOK y = true := by simp [List.all_append] at h4; exact h4.2
        have hm : m.all evOK = true := by simp [List.all_append] at h4 ⊢; exact h4.1
        obtain ⟨a1, a2, a3, a4, a5, a6⟩ := evOK_2 hyok hy
        obtain ⟨b1, b2, b3, b4, b5, b6⟩ := evOK_2 k2 k1
        have hnew : evOK { y with l := g.l } = true := by
          have : ({ y with l := g.l } : Ev) = ⟨2, y.e, y.s, g.l, 0, 0⟩ := by
            obtain ⟨k, e, s, l, v, c⟩ := y
            simp at hy a5 a6 ⊢
            exact ⟨hy, a5, a6⟩
          rw [this]
          exact evOK_gap a1 a2 ⟨by omega, b4⟩
        simp only [List.dropLast_concat, if_true, qOK, List.length_append, List.length_cons, List.length_nil, List.all_append, List.all_cons, List.all_nil, hm, hnew, lastK_app, Bool.and_true, Bool.and_eq_true, Bool.or_eq_true, Bool.not_eq_true', decide_eq_true_eq, decide_eq_false_iff_not] at h3 hlen ⊢
        exact ⟨⟨⟨h1, h2⟩, by simpa using h3⟩, .inr hy⟩
      · rw [show putE (m ++ [y]) n x = (6, []) by simp [putE, hq0, hx, hg, g1', g2', g3]]
        exact hq0
def rQ (c : Cf) (s : Sm) (sub : Bool) (q : List Ev) (x : It) : List Ev := if sub then fitE q c.q ⟨1, s.e, x.s, 0, x.v, 0⟩ else q
def takeR (c : Cf) (sub : Bool) : List It → Sm → List Ev → List It → It → Sm × List Ev × List It
  | [], s, q, on, x => (⟨s.e, s.w + 1, if s.w + 1 > s.kn then s.w + 1 else s.kn, pushL s.kp s.w c.p x.v, []⟩, rQ c s sub q x, on ++ [x])
  | y :: r, s, q, on, x => if y.s = s.w + 1 then takeR c sub r ⟨s.e, s.w + 1, if s.w + 1 > s.kn then s.w + 1 else s.kn, pushL s.kp s.w c.p x.v, r⟩ (rQ c s sub q x) (on ++ [x]) y
    else (⟨s.e, s.w + 1, if s.w + 1 > s.kn then s.w + 1 else s.kn, pushL s.kp s.w c.p x.v, y :: r⟩, rQ c s sub q x, on ++ [x])
structure RI (c : Cf) (sub : Bool) (ah : List It) (s : Sm) (q : List Ev) (x : It) : Prop where
  cc : 1 ≤ c.p ∧ c.p ≤ 16
  qq : sub = true → qOK q c.q = true ∧ epOK s.e = true
  xs : x.s = s.w
  ws : 1 ≤ s.w ∧ s.w ≤ 1073741823
  xv : inB x.v 0 2147483647 = true
  ay : ∀ y ∈ ah, inB y.v 0 2147483647 = true ∧ y.s ≤ 1073741823
  kl : s.kp.length ≤ 16
  ql : q.length < 900
theorem push_len {l : List It} {want lim v : Int} (hl : l.length ≤ 16) (h : 1 ≤ lim ∧ lim ≤ 16) : (pushL l want lim v).length ≤ 16 := by
  simp [pushL]; omega
theorem rQ_ok {c : Cf} {sub : Bool} {ah : List It} {s : Sm} {q : List Ev} {x : It} (h : RI c sub ah s q x) : (sub = true → qOK (rQ c s sub q x) c.q = true ∧ epOK s.e = true) ∧ (q.length < 800 → (rQ c s sub q x).length < 900) := by
  refine ⟨fun hs => ⟨?_, (h.qq hs).2⟩, fun hl => ?_⟩
  · subst hs
    simp only [rQ, if_true]
    have := h.ws
    exact q_fit (h.qq rfl).1 (evOK_data (h.qq rfl).2 (by rw [h.xs]; omega) h.xv)
  · unfold rQ
    split
    · have := fitE_len q c.q ⟨1, s.e, x.s, 0, x.v, 0⟩; omega
    · omega
theorem e66 (N d : Nat) (hN : 1000 ≤ N) (c : Cf) (s : Sm) (sub : Bool) (q : List Ev) (v : Int) (ha : s.ah.length < 400) (hq : q.length < 400) (h : RI c sub s.ah s q ⟨s.w, v⟩) :
    ans (TT N (d + 4) 66 [.agg (eC c), aS s, bV sub, .one (rE q), iV v]) = some (.tup [aS (takeR c sub s.ah s q [] ⟨s.w, v⟩).1, .one (rE (takeR c sub s.ah s q [] ⟨s.w, v⟩).2.1), .one (rT (takeR c sub s.ah s q [] ⟨s.w, v⟩).2.2)]) := by
  rw [t66, F_ev rfl]
  simp only [List.length_map, j66, b66, q66, qq, ww, List.replicate, Nat.reduceBEq, Nat.reduceAdd, Nat.reduceMul, Nat.reduceDiv, Nat.reduceEqDiff, Nat.reduceLeDiff, Nat.reduceLT, Int.reduceEq, Int.reduceNe, Int.reduceLT, Int.reduceLE, Int.reduceAdd, Int.reduceSub, Int.reduceMul, Int.reduceNeg, Int.reduceToNat, reduceCtorEq, reduceIte, if_true, if_false]
  generalize hF : takeR c sub s.ah s q [] ⟨s.w, v⟩ = F at *
  refine loopI (K := fun o => ans (fin _ (aft _ _ _ o))) (I := fun i st => ∃ ah s' q' on' x', st = ⟨[(2, bV sub), (3, .one (rE q')), (5, .one (.ref 320 0 0)), (6, .one (.ref 384 0 0)), (10, .one (.ref 640 0 0)), (13, .one (.sl 832 0 on'.length)), (14, .one (.ref 896 0 0))],
      [(320, .box (eC c)), (384, .box [.int .i64 s'.e, .int .i64 s'.w, .int .i64 s'.kn, rT s'.kp, rT ah]), (640, .box [.int .i64 0, .int .i64 0, .int .i64 0, .row [], .row []]), (832, .rows 29 2 (on'.map eT)), (896, .box (eT x'))]⟩ ∧ takeR c sub ah s' q' on' x' = F ∧ RI c sub ah s' q' x' ∧ ah.length + i = s.ah.length ∧ on'.length ≤ i ∧ q'.length ≤ q.length + i) _ s.ah.length ?hr s.ah.length 0 N _
      ⟨[(2, bV sub), (3, .one (rE q)), (5, .one (.ref 320 0 0)), (6, .one (.ref 384 0 0)), (10, .one (.ref 640 0 0)), (13, .one (.sl 832 0 0)), (14, .one (.ref 896 0 0))],
      [(320, .box (eC c)), (384, .box (eS s)), (640, .box [.int .i64 0, .int .i64 0, .int .i64 0, .row [], .row []]), (832, .rows 29 2 []), (896, .box (eT (⟨s.w, v⟩ : It)))]⟩ (by omega) (by omega) ?hk ⟨s.ah, s, q, [], ⟨s.w, v⟩, rfl, hF, h, by omega, by simp, by omega⟩
  case hk => simp only [gcK, lowB, Nat.reduceLeDiff, Nat.reduceBEq, List.contains_nil, List.contains_cons, Bool.or_false, Bool.false_or, Bool.false_eq_true, if_false, Bool.true_and, Bool.and_true, pickL, look_hit, look_miss, look_end, slMent, hpMent, S.ment, S.ment.smt, ments, V.ment, List.append_nil, List.nil_append, List.cons_append, List.all_nil, List.all_cons, Option.isSome_some, Bool.and_self, if_true, reduceIte, Nat.reduceEqDiff, not_false_eq_true, reduceCtorEq, Nat.reduceMul, Nat.reduceAdd]
  case hr =>
    rintro i n st hi ⟨ah, s', q', on', x', rfl, hf, hri, hal, hon, hql⟩ ih
    (try dsimp only)
    have h1 := fun d => e103 N d s'.kp s'.w c.p x'.v hri.cc (by have := hri.kl; omega)
    have hws := hri.ws
    have hwi : IntKind.i64.wrap (s'.w + 1) = s'.w + 1 := IntWalk.i64_in _ (by omega)
    have hby : (on'.length + 1) * 16 ≤ 140737488355328 := by omega
    have htk : List.take (on'.length + 1) (on'.map eT ++ [eT x']) = on'.map eT ++ [eT x'] := List.take_of_length_le (by simp)
    have hput : sub = true → ∀ d, TT N (d + 3) 69 [.one (rE q'), iV c.q, aE ⟨1, s'.e, x'.s, 0, x'.v, 0⟩] = some (.one (rE (fitE q' c.q ⟨1, s'.e, x'.s, 0, x'.v, 0⟩)), []) := fun hs d =>
      e69 N d q' c.q ⟨1, s'.e, x'.s, 0, x'.v, 0⟩ (by have := hri.ql; omega) (hri.qq hs).1 (evOK_data (hri.qq hs).2 (by rw [hri.xs]; omega) hri.xv)
    have hrq := rQ_ok hri
    have hpl := push_len (want := s'.w) (v := x'.v) hri.kl hri.cc
    have hrl : (rQ c s' sub q' x').length ≤ q'.length + 1 := by
      unfold rQ
      split
      · exact fitE_len _ _ _
      · omega
    have hqr : rQ c s' sub q' x' = (if sub = true then fitE q' c.q ⟨1, s'.e, x'.s, 0, x'.v, 0⟩ else q') := rfl
    have hxs := hri.xs
    cases ah with
    | nil =>
      clear ih
      rw [takeR] at hf
      subst hf
      cases sub with
      | true =>
        have hp := hput rfl
        simp only [if_true] at hqr
        simp only [h1, hp, hwi, hby, htk, hqr, takeT, List.map_nil, List.length_nil, List.length_map, List.length_append, List.map_append, List.length_cons, List.map_cons, Nat.zero_add, j66, b66, q66, qq, ww, List.replicate, Nat.reduceBEq, Nat.reduceAdd, Nat.reduceMul, Nat.reduceDiv, Nat.reduceEqDiff, Nat.reduceLeDiff, Nat.reduceLT, Int.reduceEq, Int.reduceNe, Int.reduceLT, Int.reduceLE, Int.reduceAdd, Int.reduceSub, Int.reduceMul, Int.reduceNeg, Int.reduceToNat, reduceCtorEq, reduceIte, if_true, if_false]
        try (simp [rT]; done)
      | false =>
        simp only [Bool.false_eq_true, if_false] at hqr
        simp only [h1, hwi, hby, htk, hqr, takeT, List.map_nil, List.length_nil, List.length_map, List.length_append, List.map_append, List.length_cons, List.map_cons, Nat.zero_add, j66, b66, q66, qq, ww, List.replicate, Nat.reduceBEq, Nat.reduceAdd, Nat.reduceMul, Nat.reduceDiv, Nat.reduceEqDiff, Nat.reduceLeDiff, Nat.reduceLT, Int.reduceEq, Int.reduceNe, Int.reduceLT, Int.reduceLE, Int.reduceAdd, Int.reduceSub, Int.reduceMul, Int.reduceNeg, Int.reduceToNat, reduceCtorEq, reduceIte, if_true, if_false]
        try (simp [rT]; done)
    | cons y r =>
      simp only [List.length_cons] at hal
      have hz : decide ((((y :: r).map eT).length : Int) = 0) = false := by simp; omega
      have hz2 : decide (((r.length + 1 : Nat) : Int) = 0) = false := by simp; omega
      have hb : (0 : Int) ≤ 0 ∧ (0 : Int) < ((r.length + 1 : Nat) : Int) := by omega
      have hb3 : (0 : Int) ≤ 1 := by omega
      have hif : (if (1 : Int) = ((r.length + 1 : Nat) : Int) then (some (S.one (V.row []), ([] : Hp))) else some (S.one (V.row (r.map eT)), [])) = some (.one (.row (r.map eT)), []) := by
        split
        · rename_i h
          rw [List.eq_nil_of_length_eq_zero (l := r) (by omega)]
          rfl
        · rfl
      have hb4 : (1 : Int) ≤ ((r.length + 1 : Nat) : Int) := by omega
      rw [takeR] at hf
      by_cases hy : y.s = s'.w + 1
      · rw [if_pos hy] at hf
        have hay := hri.ay y (by simp)
        have hri' : RI c sub r ⟨s'.e, s'.w + 1, if s'.w + 1 > s'.kn then s'.w + 1 else s'.kn, pushL s'.kp s'.w c.p x'.v, r⟩ (rQ c s' sub q' x') y :=
          ⟨hri.cc, hrq.1, hy, by show 1 ≤ s'.w + 1 ∧ s'.w + 1 ≤ _; omega, hay.1, fun z hz => hri.ay z (by simp [hz]), hpl, hrq.2 (by omega)⟩
        have hne : decide (y.s = s'.w + 1) = true := decide_eq_true hy
        cases sub with
        | true =>
          have hp := hput rfl
          simp only [if_true] at hqr
          simp only [h1, hp, hwi, hby, htk, hz, hz2, hb.1, hb.2, hb3, hb4, hif, hne, takeT, allT, Nat.add_sub_cancel, List.length_map, List.length_cons, List.map_cons, j66, b66, q66, qq, ww, List.replicate, Nat.reduceBEq, Nat.reduceAdd, Nat.reduceMul, Nat.reduceDiv, Nat.reduceEqDiff, Nat.reduceLeDiff, Nat.reduceLT, Int.reduceEq, Int.reduceNe, Int.reduceLT, Int.reduceLE, Int.reduceAdd, Int.reduceSub, Int.reduceMul, Int.reduceNeg, Int.reduceToNat, reduceCtorEq, reduceIte, if_true, if_false]
          refine ih (by omega) _ _ ?_ ⟨r, _, _, _, y, rfl, hf, hri', by omega, by simp; omega, by omega⟩
          simp only [gcK, lowB, Nat.reduceLeDiff, Nat.reduceBEq, List.contains_nil, List.contains_cons, Bool.or_false, Bool.false_or, Bool.false_eq_true, if_false, Bool.true_and, Bool.and_true, pickL, look_hit, look_miss, look_end, slMent, hpMent, S.ment, S.ment.smt, ments, V.ment, List.append_nil, List.nil_append, List.cons_append, List.all_nil, List.all_cons, Option.isSome_some, Bool.and_self, if_true, reduceIte, Nat.reduceEqDiff, not_false_eq_true, reduceCtorEq, Nat.reduceMul, Nat.reduceAdd, hqr, rT, List.map_append, List.map_cons, List.map_nil, List.length_append, List.length_cons, List.length_nil, Nat.zero_add]
          try rfl
        | false =>
          simp only [Bool.false_eq_true, if_false] at hqr
          simp only [h1, hwi, hby, htk, hz, hz2, hb.1, hb.2, hb3, hb4, hif, hne, takeT, allT, Nat.add_sub_cancel, List.length_map, List.length_cons, List.map_cons, j66, b66, q66, qq, ww, List.replicate, Nat.reduceBEq, Nat.reduceAdd, Nat.reduceMul, Nat.reduceDiv, Nat.reduceEqDiff, Nat.reduceLeDiff, Nat.reduceLT, Int.reduceEq, Int.reduceNe, Int.reduceLT, Int.reduceLE, Int.reduceAdd, Int.reduceSub, Int.reduceMul, Int.reduceNeg, Int.reduceToNat, reduceCtorEq, reduceIte, if_true, if_false]
          refine ih (by omega) _ _ ?_ ⟨r, _, _, _, y, rfl, hf, hri', by omega, by simp; omega, by omega⟩
          simp only [gcK, lowB, Nat.reduceLeDiff, Nat.reduceBEq, List.contains_nil, List.contains_cons, Bool.or_false, Bool.false_or, Bool.false_eq_true, if_false, Bool.true_and, Bool.and_true, pickL, look_hit, look_miss, look_end, slMent, hpMent, S.ment, S.ment.smt, ments, V.ment, List.append_nil, List.nil_append, List.cons_append, List.all_nil, List.all_cons, Option.isSome_some, Bool.and_self, if_true, reduceIte, Nat.reduceEqDiff, not_false_eq_true, reduceCtorEq, Nat.reduceMul, Nat.reduceAdd, hqr, rT, List.map_append, List.map_cons, List.map_nil, List.length_append, List.length_cons, List.length_nil, Nat.zero_add]
          try rfl
      · rw [if_neg hy] at hf
        clear ih
        subst hf
        have hne : decide (y.s = s'.w + 1) = false := decide_eq_false hy
        cases sub with
        | true =>
          have hp := hput rfl
          simp only [if_true] at hqr
          simp only [h1, hp, hwi, hby, htk, hz, hz2, hb.1, hb.2, hne, hqr, takeT, List.length_map, List.length_append, List.map_append, List.length_cons, List.map_cons, List.length_nil, List.map_nil, Nat.zero_add, j66, b66, q66, qq, ww, List.replicate, Nat.reduceBEq, Nat.reduceAdd, Nat.reduceMul, Nat.reduceDiv, Nat.reduceEqDiff, Nat.reduceLeDiff, Nat.reduceLT, Int.reduceEq, Int.reduceNe, Int.reduceLT, Int.reduceLE, Int.reduceAdd, Int.reduceSub, Int.reduceMul, Int.reduceNeg, Int.reduceToNat, reduceCtorEq, reduceIte, if_true, if_false]
          try (simp [rT]; done)
        | false =>
          simp only [Bool.false_eq_true, if_false] at hqr
          simp only [h1, hwi, hby, htk, hz, hz2, hb.1, hb.2, hne, hqr, takeT, List.length_map, List.length_append, List.map_append, List.length_cons, List.map_cons, List.length_nil, List.map_nil, Nat.zero_add, j66, b66, q66, qq, ww, List.replicate, Nat.reduceBEq, Nat.reduceAdd, Nat.reduceMul, Nat.reduceDiv, Nat.reduceEqDiff, Nat.reduceLeDiff, Nat.reduceLT, Int.reduceEq, Int.reduceNe, Int.reduceLT, Int.reduceLE, Int.reduceAdd, Int.reduceSub, Int.reduceMul, Int.reduceNeg, Int.reduceToNat, reduceCtorEq, reduceIte, if_true, if_false]
          try (simp [rT]; done)
end Go.Proofs.YtkfcbpbnoeaheaaGreatDoor.FA
namespace Go.Proofs.YtkfcbpbnoeaheaaGreatDoor.FA
open Go Go.Proofs.YtkfcbpbnoeaheaaGreatDoorR IG
open QA (Ev eE aE rE inB epOK evOK qOK putE n01 gapE lastK)
open AA (It eT aT rT ahOK addA leftL wi wm takeT allT take_s hR pre cP risB fitsB)
open EC (Cf eC okC)
set_option maxRecDepth 100000
set_option maxHeartbeats 4000000
theorem kRow_app : ∀ {l : List It} {s : Int} {x : It}, kRow s (l ++ [x]) = (kRow s l && kRow (s + l.length) [x])
  | [], s, x => by simp [kRow]
  | y :: r, s, x => by
    have ih := kRow_app (l := r) (s := s + 1) (x := x)
    rw [show s + 1 + (r.length : Int) = s + ((y :: r).length : Int) by simp; omega] at ih
    rw [List.cons_append, kRow, ih, show kRow s (y :: r) = (decide (1 ≤ y.s) && decide (y.s = s) && inB y.v 0 2147483647 && kRow (s + 1) r) from rfl]
    simp only [Bool.and_assoc]
theorem kRow_drop : ∀ {d : Nat} {l : List It} {s : Int}, kRow s l = true → d ≤ l.length → kRow (s + d) (l.drop d) = true
  | 0, l, s, h, _ => by simpa using h
  | d + 1, [], s, h, hd => by simp at hd
  | d + 1, x :: r, s, h, hd => by
    rw [kRow, Bool.and_eq_true] at h
    have := kRow_drop (d := d) h.2 (by simpa using hd)
    rw [List.drop_succ_cons, show s + ((d + 1 : Nat) : Int) = s + 1 + d by omega]
    exact this
theorem push_ok {l : List It} {w lim v : Int} (h : kpOK l w lim = true) (hw : w ≤ 1073741823) (hv : inB v 0 2147483647 = true) : kpOK (pushL l w lim v) (w + 1) lim = true := by
  simp only [kpOK, inB, Bool.and_eq_true, decide_eq_true_eq] at h
  obtain ⟨⟨⟨h1, h2⟩, h3⟩, h4⟩ := h
  have hx : kRow w [(⟨w, v⟩ : It)] = true := by
    have : decide (1 ≤ w) = true := by simp; omega
    simp [kRow, hv, this]
  have ha : kRow (w - l.length) (l ++ [(⟨w, v⟩ : It)]) = true := by
    rw [kRow_app, h4, show w - (l.length : Int) + l.length = w by omega, hx]; rfl
  have hd : l.length + 1 - lim.toNat ≤ (l ++ [(⟨w, v⟩ : It)]).length := by simp
  have := kRow_drop ha hd
  have hlen : (pushL l w lim v).length = l.length + 1 - (l.length + 1 - lim.toNat) := by simp [pushL]
  simp only [kpOK, inB, Bool.and_eq_true, decide_eq_true_eq]
  refine ⟨⟨⟨by omega, h2⟩, by rw [hlen]; omega⟩, ?_⟩
  rw [hlen, show w + 1 - ((l.length + 1 - (l.length + 1 - lim.toNat) : Nat) : Int) = w - l.length + ((l.length + 1 - lim.toNat : Nat) : Int) by omega]
  exact this
theorem pushP_ok {l : List It} {w lim v : Int} (h : kpOK l w lim = true) (hw : w ≤ 1073741823) (hv : inB v 0 2147483647 = true) : pushP l w lim v = (pushL l w lim v, 0) := by
  unfold pushP
  rw [h, hv, if_neg (by decide), if_neg (by omega)]
theorem takeR_ah {c : Cf} {sub : Bool} {ah : List It} {e w kn : Int} {kp a b : List It} {q : List Ev} {on : List It} {x : It} : takeR c sub ah ⟨e, w, kn, kp, a⟩ q on x = takeR c sub ah ⟨e, w, kn, kp, b⟩ q on x := by
  cases ah <;> rfl
theorem take_fold {c : Cf} {sub : Bool} {want : Int} (hwant : 0 ≤ want ∧ want ≤ 1073741824) : ∀ {ah : List It} {s : Sm} {q : List Ev} {on : List It} {x : It} {k : Nat}, x.s = s.w → s.w + 1 = want + k → kpOK s.kp s.w c.p = true → inB x.v 0 2147483647 = true → s.w ≤ 1073741823 →
    (∀ y ∈ ah, inB y.v 0 2147483647 = true ∧ 0 ≤ y.s ∧ y.s ≤ 1073741823) →
    takeR c sub ah s q on x = (⟨(foldK c sub (ah.take (pre (cP want) ah k)) (oneS c s x.v) (oneQ c s sub q x.v) (on ++ [⟨s.w, x.v⟩])).1.e, (foldK c sub (ah.take (pre (cP want) ah k)) (oneS c s x.v) (oneQ c s sub q x.v) (on ++ [⟨s.w, x.v⟩])).1.w,
      (foldK c sub (ah.take (pre (cP want) ah k)) (oneS c s x.v) (oneQ c s sub q x.v) (on ++ [⟨s.w, x.v⟩])).1.kn, (foldK c sub (ah.take (pre (cP want) ah k)) (oneS c s x.v) (oneQ c s sub q x.v) (on ++ [⟨s.w, x.v⟩])).1.kp, ah.drop (pre (cP want) ah k)⟩,
      (foldK c sub (ah.take (pre (cP want) ah k)) (oneS c s x.v) (oneQ c s sub q x.v) (on ++ [⟨s.w, x.v⟩])).2)
  | [], s, q, on, x, k, hx, hk, hp, hv, hw, hah => by
    have e1 := pushP_ok (v := x.v) hp hw hv
    obtain ⟨xs, xv⟩ := x
    simp only at hx hv e1
    subst hx
    simp only [pre, List.take_zero, List.drop_zero, foldK, takeR, oneS, oneQ, rQ, e1]
  | y :: r, s, q, on, x, k, hx, hk, hp, hv, hw, hah => by
    have e1 := pushP_ok (v := x.v) hp hw hv
    have hy := hah y (by simp)
    have hcp : cP want y k = decide (y.s = s.w + 1) := by
      unfold cP
      rw [IntWalk.i64_in _ (by omega)]
      by_cases h : y.s = s.w + 1
      · rw [decide_eq_true h, decide_eq_true (by omega)]
      · rw [decide_eq_false h, decide_eq_false (by omega)]
    obtain ⟨xs, xv⟩ := x
    simp only at hx hv e1
    subst hx
    rw [takeR, pre, hcp]
    by_cases h : y.s = s.w + 1
    · rw [if_pos h, if_pos (decide_eq_true h)]
      have hs1 : takeR c sub r ⟨s.e, s.w + 1, if s.w + 1 > s.kn then s.w + 1 else s.kn, pushL s.kp s.w c.p xv, r⟩ (rQ c s sub q ⟨s.w, xv⟩) (on ++ [⟨s.w, xv⟩]) y =
          takeR c sub r (oneS c s xv) (oneQ c s sub q xv) (on ++ [⟨s.w, xv⟩]) y := by
        rw [oneS, e1]
        exact takeR_ah
      rw [hs1, take_fold hwant (s := oneS c s xv) (k := k + 1) h (by show s.w + 1 + 1 = _; omega) (by show kpOK (pushP s.kp s.w c.p xv).1 (s.w + 1) c.p = true; rw [e1]; exact push_ok hp hw hv) hy.1 (by show s.w + 1 ≤ _; omega) (fun z hz => hah z (by simp [hz]))]
      rfl
    · rw [if_neg h, show (if decide (y.s = s.w + 1) = true then pre (cP want) r (k + 1) + 1 else 0) = 0 from if_neg (by simp [h])]
      simp only [List.take_zero, List.drop_zero, foldK, oneS, oneQ, rQ, e1]
theorem left_all {w : Int} : ∀ {l : List It}, (∀ y ∈ l, w ≤ y.s) → leftL w l = l := fun {l} h => by
  unfold leftL
  rw [List.filter_eq_self]
  intro y hy
  simp [h y hy]
theorem one_more {c : Cf} {sub : Bool} {s : Sm} {q : List Ev} {v : Int} (hp : kpOK s.kp s.w c.p = true) (hv : inB v 0 2147483647 = true) (hw : 0 ≤ s.w ∧ s.w ≤ 1073741823) (hah : ∀ y ∈ s.ah, inB y.v 0 2147483647 = true ∧ s.w < y.s ∧ y.s ≤ 1073741823) :
    moreK c sub (oneS c s v) (oneQ c s sub q v) [⟨s.w, v⟩] = takeR c sub s.ah s q [] ⟨s.w, v⟩ := by
  have hl : leftL (s.w + 1) s.ah = s.ah := left_all fun y hy => by have := hah y hy; omega
  rw [take_fold (want := s.w + 1) (k := 0) (by omega) rfl (by simp) hp hv hw.2 fun y hy => ⟨(hah y hy).1, by have := hah y hy; omega, (hah y hy).2.2⟩]
  unfold moreK
  simp only [cut]
  rw [show (oneS c s v).w = s.w + 1 from rfl, show (oneS c s v).ah = s.ah from rfl, hl]
  rfl
end Go.Proofs.YtkfcbpbnoeaheaaGreatDoor.FA
namespace Go.Proofs.YtkfcbpbnoeaheaaGreatDoor.FA
open Go Go.Proofs.YtkfcbpbnoeaheaaGreatDoorR IG
open QA (Ev eE aE rE inB epOK evOK qOK putE n01 gapE lastK)
open AA (It eT aT rT ahOK addA addR leftL wi wm takeT allT take_s hR pre cP risB fitsB)
open EC (Cf eC okC)
set_option maxRecDepth 100000
set_option maxHeartbeats 4000000
abbrev gA (r : Sm × List Ev × List It) : S := .tup [aS r.1, .one (rE r.2.1), .one (rT r.2.2)]
theorem right_e {c : Cf} {s : Sm} (h : rightB c s = true) (he : epOK s.e = true) : kpOK s.kp s.w c.p = true ∧ ahOK s.ah s.w c.w = true ∧ 1 ≤ s.w := by
  unfold rightB at h
  rw [Bool.or_eq_true] at h
  rcases h with h | h
  · rw [zeroB_iff] at h; subst h; simp [epOK, inB] at he
  · simp only [Bool.and_eq_true, decide_eq_true_eq] at h
    exact ⟨h.1.2, h.2, by have := h.1.1.1.1.2; simp [inB] at this; omega⟩
theorem okC_t {c : Cf} (h : okC c = true) : (1 ≤ c.n ∧ c.n ≤ 8) ∧ (1 ≤ c.t ∧ c.t ≤ 4) ∧ (1 ≤ c.k ∧ c.k ≤ 4) ∧ (1 ≤ c.d ∧ c.d ≤ 8) ∧ (1 ≤ c.p ∧ c.p ≤ 16) ∧ (1 ≤ c.w ∧ c.w ≤ 16) ∧ (2 ≤ c.q ∧ c.q ≤ 32) := by simpa [okC] using h
theorem e25 (N d : Nat) (hN : 1000 ≤ N) (c : Cf) (s : Sm) (sub : Bool) (q : List Ev) (at_ : Int) (x : It) (h0 : flowC c s q = 0) (h1 : epOK at_ = true) (h2 : inB x.s 1 1073741823 = true) (h3 : inB x.v 0 2147483647 = true) :
    ans (TT N (d + 5) 25 [.agg (eC c), aS s, bV sub, .one (rE q), iV at_, aT x]) = some (gA (itemG c (if at_ > s.e then ⟨at_, x.s, x.s, [], []⟩ else s) sub q (decide (at_ < s.e)) x)) := by
  obtain ⟨k1, k2, k3⟩ := flow_t h0
  have k4 := right_t k2
  have kk := k4.1
  have ka := k4.2.1
  have k5 := q_t k3
  have k6 : 1 ≤ x.s ∧ x.s ≤ 1073741823 := by simpa [inB] using h2
  have kc := okC_t k1
  have kp : 1 ≤ c.p ∧ c.p ≤ 16 := kc.2.2.2.2.1
  have hs : smL s := ⟨by omega, by omega⟩
  have t1 := fun d => e10 N d s hs
  have t2 := fun d => QA.e11 N d q (by omega)
  have t3 := fun d => e65 N d at_ x.s
  rw [t25, F_ev rfl]
  by_cases g1 : at_ < s.e
  · have g2 : ¬ at_ > s.e := by omega
    rw [if_neg g2]
    unfold itemG
    rw [if_pos (by simp [g1])]
    simp only [t1, t2, decide_eq_true g1, QA.tk, List.length_map, j25, b25, q25, qq, ww, List.replicate, Nat.reduceBEq, Nat.reduceAdd, Nat.reduceMul, Nat.reduceDiv, Nat.reduceEqDiff, Nat.reduceLeDiff, Nat.reduceLT, Int.reduceEq, Int.reduceNe, Int.reduceLT, Int.reduceLE, Int.reduceAdd, Int.reduceSub, Int.reduceMul, Int.reduceNeg, Int.reduceToNat, reduceCtorEq, reduceIte, if_true, if_false]
    try rfl
  by_cases g2 : at_ > s.e
  · rw [if_pos g2]
    unfold itemG
    rw [if_neg (by simp; omega), if_pos rfl]
    have hri : RI c sub [] ⟨at_, x.s, x.s, [], []⟩ q ⟨x.s, x.v⟩ := ⟨kp, fun _ => ⟨k3, h1⟩, rfl, k6, h3, by simp, by simp, by omega⟩
    have ht := fun d => e66 N d hN c ⟨at_, x.s, x.s, [], []⟩ sub q x.v (by simp) (by omega) hri
    rw [one_more (by show kpOK [] x.s c.p = true; simp [kpOK, inB, kRow]; omega) h3 (by show 0 ≤ x.s ∧ x.s ≤ _; omega) (by simp)]
    dsimp only at ht ⊢
    generalize hM : takeR c sub [] ⟨at_, x.s, x.s, [], []⟩ q [] ⟨x.s, x.v⟩ = r at *
    simp only [t1, t2, t3, ht, decide_eq_false g1, decide_eq_true g2, decide_true, QA.tk, takeT, gA, List.length_map, j25, b25, q25, qq, ww, List.replicate, Nat.reduceBEq, Nat.reduceAdd, Nat.reduceMul, Nat.reduceDiv, Nat.reduceEqDiff, Nat.reduceLeDiff, Nat.reduceLT, Int.reduceEq, Int.reduceNe, Int.reduceLT, Int.reduceLE, Int.reduceAdd, Int.reduceSub, Int.reduceMul, Int.reduceNeg, Int.reduceToNat, reduceCtorEq, reduceIte, if_true, if_false]
  rw [if_neg g2]
  obtain rfl : at_ = s.e := by omega
  obtain ⟨r1, r2, r3⟩ := right_e k2 h1
  have hah := right_ah k2
  by_cases g3 : x.s = s.w
  · unfold itemG
    rw [if_neg (by simp; omega), if_pos g3]
    have hri : RI c sub s.ah s q ⟨s.w, x.v⟩ := ⟨kp, fun _ => ⟨k3, h1⟩, rfl, by omega, h3, fun y hy => by have := hah y hy; exact ⟨this.2.2, by omega⟩, by omega, by omega⟩
    have ht := fun d => e66 N d hN c s sub q x.v (by omega) (by omega) hri
    rw [one_more r1 h3 (by omega) (fun y hy => by have := hah y hy; exact ⟨this.2.2, this.1, by omega⟩)]
    generalize hM : takeR c sub s.ah s q [] ⟨s.w, x.v⟩ = r at *
    simp only [t1, t2, ht, decide_eq_false g1, decide_eq_false g2, decide_eq_true g3, QA.tk, takeT, gA, List.length_map, j25, b25, q25, qq, ww, List.replicate, Nat.reduceBEq, Nat.reduceAdd, Nat.reduceMul, Nat.reduceDiv, Nat.reduceEqDiff, Nat.reduceLeDiff, Nat.reduceLT, Int.reduceEq, Int.reduceNe, Int.reduceLT, Int.reduceLE, Int.reduceAdd, Int.reduceSub, Int.reduceMul, Int.reduceNeg, Int.reduceToNat, reduceCtorEq, reduceIte, if_true, if_false]
  by_cases g4 : x.s > s.w
  · unfold itemG
    rw [if_neg (by simp; omega), if_neg g3]
    have hwx : IntKind.i64.wrap (x.s + 1) = x.s + 1 := IntWalk.i64_in _ (by omega)
    have hww : IntKind.i64.wrap (s.w + c.w) = s.w + c.w := IntWalk.i64_in _ (by omega)
    have ha := fun d => AA.e67 N d s.ah s.w c.w x (by omega) (by omega) hww
    cases g5 : fitsB x.s s.w c.w with
    | false =>
      rw [g5] at ha
      rw [show addA s.ah s.w c.w x = ([], 6) by simp [addA, r2, show AA.inB x.v 0 2147483647 = true from h3, g5]]
      simp only [t1, t2, ha, hwx, decide_eq_false g1, decide_eq_false g2, decide_eq_false g3, decide_eq_true g4, QA.tk, takeT, gA, List.length_map, Bool.false_eq_true, if_false, List.map_nil, j25, b25, q25, qq, ww, List.replicate, Nat.reduceBEq, Nat.reduceAdd, Nat.reduceMul, Nat.reduceDiv, Nat.reduceEqDiff, Nat.reduceLeDiff, Nat.reduceLT, Int.reduceEq, Int.reduceNe, Int.reduceLT, Int.reduceLE, Int.reduceAdd, Int.reduceSub, Int.reduceMul, Int.reduceNeg, Int.reduceToNat, reduceCtorEq, reduceIte, if_true, if_false]
      try rfl
    | true =>
      rw [g5] at ha
      rw [AA.add_eq r2 h3 g5]
      generalize hM : addR s.ah x = a at *
      obtain ⟨m, e⟩ := a
      dsimp only at ha ⊢
      by_cases g6 : e = 0
      · rw [if_pos g6]
        simp only [t1, t2, ha, hwx, decide_eq_false g1, decide_eq_false g2, decide_eq_false g3, decide_eq_true g4, decide_eq_true g6, QA.tk, takeT, gA, List.length_map, if_true, j25, b25, q25, qq, ww, List.replicate, Nat.reduceBEq, Nat.reduceAdd, Nat.reduceMul, Nat.reduceDiv, Nat.reduceEqDiff, Nat.reduceLeDiff, Nat.reduceLT, Int.reduceEq, Int.reduceNe, Int.reduceLT, Int.reduceLE, Int.reduceAdd, Int.reduceSub, Int.reduceMul, Int.reduceNeg, Int.reduceToNat, reduceCtorEq, reduceIte, if_true, if_false]
        try rfl
      · rw [if_neg g6]
        simp only [t1, t2, ha, hwx, decide_eq_false g1, decide_eq_false g2, decide_eq_false g3, decide_eq_true g4, decide_eq_false g6, QA.tk, takeT, gA, List.length_map, if_true, j25, b25, q25, qq, ww, List.replicate, Nat.reduceBEq, Nat.reduceAdd, Nat.reduceMul, Nat.reduceDiv, Nat.reduceEqDiff, Nat.reduceLeDiff, Nat.reduceLT, Int.reduceEq, Int.reduceNe, Int.reduceLT, Int.reduceLE, Int.reduceAdd, Int.reduceSub, Int.reduceMul, Int.reduceNeg, Int.reduceToNat, reduceCtorEq, reduceIte, if_true, if_false]
        try rfl
  · unfold itemG
    rw [if_pos (by simp; omega)]
    simp only [t1, t2, decide_eq_false g1, decide_eq_false g2, decide_eq_false g3, decide_eq_false g4, QA.tk, takeT, gA, List.length_map, j25, b25, q25, qq, ww, List.replicate, Nat.reduceBEq, Nat.reduceAdd, Nat.reduceMul, Nat.reduceDiv, Nat.reduceEqDiff, Nat.reduceLeDiff, Nat.reduceLT, Int.reduceEq, Int.reduceNe, Int.reduceLT, Int.reduceLE, Int.reduceAdd, Int.reduceSub, Int.reduceMul, Int.reduceNeg, Int.reduceToNat, reduceCtorEq, reduceIte, if_true, if_false]
    try rfl
end Go.Proofs.YtkfcbpbnoeaheaaGreatDoor.FA
namespace Go.Proofs.YtkfcbpbnoeaheaaGreatDoor.FA
open Go Go.Proofs.YtkfcbpbnoeaheaaGreatDoorR IG
open QA (Ev eE aE rE inB epOK evOK qOK putE n01 gapE lastK)
open AA (It eT aT rT ahOK addA addR leftL wi wm takeT allT take_s hR pre cP risB fitsB left_s)
open EC (Cf eC okC)
set_option maxRecDepth 100000
set_option maxHeartbeats 4000000
end Go.Proofs.YtkfcbpbnoeaheaaGreatDoor.FA
namespace Go.Proofs.YtkfcbpbnoeaheaaGreatDoor.FA
open Go Go.Proofs.YtkfcbpbnoeaheaaGreatDoorR IG
open QA (Ev eE aE rE inB epOK evOK qOK putE n01 gapE lastK)
open AA (It eT aT rT ahOK addA addR leftL wi wm takeT allT take_s hR pre cP risB fitsB left_s)
open EC (Cf eC okC)
set_option maxRecDepth 100000
set_option maxHeartbeats 4000000
def heavyB (s : Sm) (q : List Ev) : Bool := decide ((s.kp.length : Int) > 30) || decide ((s.ah.length : Int) > 30) || decide ((q.length : Int) > 50)
theorem e9 (N d : Nat) (s : Sm) (q : List Ev) : TT N (d + 1) 9 [aS s, .one (rE q)] = some (bV (heavyB s q), []) := by
  rw [t9, F_ev rfl]
  simp only [List.length_map, j9, b9, q9, qq, ww, List.replicate, Nat.reduceBEq, Nat.reduceAdd, Nat.reduceMul, Nat.reduceDiv, Nat.reduceEqDiff, Nat.reduceLeDiff, Nat.reduceLT, Int.reduceEq, Int.reduceNe, Int.reduceLT, Int.reduceLE, Int.reduceAdd, Int.reduceSub, Int.reduceMul, Int.reduceNeg, Int.reduceToNat, reduceCtorEq, reduceIte, if_true, if_false]
  repeat' (refine fin_cases (fun h1 => ?_) (fun h1 => ?_) <;> simp only [h1, List.length_map, j9, b9, q9, qq, ww, List.replicate, Nat.reduceBEq, Nat.reduceAdd, Nat.reduceMul, Nat.reduceDiv, Nat.reduceEqDiff, Nat.reduceLeDiff, Nat.reduceLT, Int.reduceEq, Int.reduceNe, Int.reduceLT, Int.reduceLE, Int.reduceAdd, Int.reduceSub, Int.reduceMul, Int.reduceNeg, Int.reduceToNat, reduceCtorEq, reduceIte, if_true, if_false])
  all_goals (first | (simp_all [heavyB]; done) | (simp_all [heavyB]; omega))
theorem heavy_t {s : Sm} {q : List Ev} (h : heavyB s q = false) : s.kp.length ≤ 30 ∧ s.ah.length ≤ 30 ∧ q.length ≤ 50 := by
  simp [heavyB] at h; omega
theorem foldK_len {c : Cf} {sub : Bool} : ∀ {l : List It} {s : Sm} {q : List Ev} {on : List It}, s.kp.length < 900 → (foldK c sub l s q on).1.kp.length < 900 ∧ (foldK c sub l s q on).1.ah = s.ah ∧ (foldK c sub l s q on).2.1.length ≤ q.length + l.length ∧ (foldK c sub l s q on).2.2.length = on.length + l.length
  | [], s, q, on, h => ⟨h, rfl, Nat.le_refl _, rfl⟩
  | x :: r, s, q, on, h => by
    have hp := pushP_len s.kp s.w c.p x.v
    have hq := oneQ_len c s sub q x.v
    obtain ⟨h1, h2, h3, h4⟩ := foldK_len (c := c) (sub := sub) (l := r) (s := oneS c s x.v) (q := oneQ c s sub q x.v) (on := on ++ [⟨s.w, x.v⟩]) (by show (pushP s.kp s.w c.p x.v).1.length < 900; omega)
    simp only [List.length_append, List.length_cons, List.length_nil] at h4
    simp only [foldK, List.length_cons]
    exact ⟨h1, h2, by omega, by omega⟩
theorem moreK_len {c : Cf} {sub : Bool} {s : Sm} {q : List Ev} {on : List It} (h : s.kp.length < 900) : (moreK c sub s q on).1.kp.length < 900 ∧ (moreK c sub s q on).1.ah.length ≤ s.ah.length ∧ (moreK c sub s q on).2.1.length ≤ q.length + s.ah.length ∧ (moreK c sub s q on).2.2.length ≤ on.length + s.ah.length := by
  have hl : (leftL s.w s.ah).length ≤ s.ah.length := List.length_filter_le _ _
  have ht : ((leftL s.w s.ah).take (cut s)).length ≤ s.ah.length := by rw [List.length_take]; omega
  obtain ⟨h1, h2, h3, h4⟩ := foldK_len (c := c) (sub := sub) (l := (leftL s.w s.ah).take (cut s)) (s := s) (q := q) (on := on) h
  unfold moreK
  exact ⟨h1, by show (List.drop _ _).length ≤ _; rw [List.length_drop]; omega, by show _ ≤ _; dsimp only; omega, by show _ ≤ _; dsimp only; omega⟩
theorem itemG_len {c : Cf} {s : Sm} {sub : Bool} {q : List Ev} {old : Bool} {x : It} (hs : s.kp.length ≤ 30 ∧ s.ah.length ≤ 30) (hq : q.length ≤ 50) : smL (itemG c s sub q old x).1 ∧ (itemG c s sub q old x).2.1.length < 900 ∧ (itemG c s sub q old x).2.2.length < 900 := by
  unfold itemG
  split
  · exact ⟨⟨by show s.kp.length < 900; omega, by show s.ah.length < 900; omega⟩, by show q.length < 900; omega, by simp⟩
  · split
    · have hp := pushP_len s.kp s.w c.p x.v
      have hq2 := oneQ_len c s sub q x.v
      obtain ⟨h1, h2, h3, h4⟩ := moreK_len (c := c) (sub := sub) (s := oneS c s x.v) (q := oneQ c s sub q x.v) (on := [⟨s.w, x.v⟩]) (by show (pushP s.kp s.w c.p x.v).1.length < 900; omega)
      have e1 : (oneS c s x.v).ah.length = s.ah.length := rfl
      simp only [List.length_cons, List.length_nil] at h4
      exact ⟨⟨h1, by omega⟩, by omega, by omega⟩
    · have ha := AA.addA_len s.ah s.w c.w x
      refine ⟨⟨by show s.kp.length < 900; omega, ?_⟩, by show q.length < 900; omega, by simp⟩
      show (if (addA s.ah s.w c.w x).2 = 0 then (addA s.ah s.w c.w x).1 else s.ah).length < 900
      split <;> omega
end Go.Proofs.YtkfcbpbnoeaheaaGreatDoor.FA
namespace Go.Proofs.YtkfcbpbnoeaheaaGreatDoor.GA
open Go Go.Proofs.YtkfcbpbnoeaheaaGreatDoorR IG
open QA (Ev eE aE rE epOK evOK qOK putE n01)
open AA (It eT aT rT wi takeT allT)
open EC (Cf eC okC)
open FA (Sm eS aS s0 smL flowC rightB heavyB heavy_t)
open KA (Kd eK aK rK nr okT okN kOK inB gap takeK all3)
set_option maxRecDepth 100000
set_option maxHeartbeats 4000000
structure Tp where
  (m b : Bool)
  (t r p a o g : Int)
  (pa : List Int)
  (ks : List Kd)
  (s : Sm)
  (q : List Ev)
  deriving DecidableEq
abbrev eX (x : Tp) : List V := [.bool x.m, .bool x.b, .int .i64 x.t, .int .i64 x.r, .int .i64 x.p, .int .i64 x.a, .int .i64 x.o, .int .i64 x.g, rI x.pa, rK x.ks, .int .i64 x.s.e, .int .i64 x.s.w, .int .i64 x.s.kn, rT x.s.kp, rT x.s.ah, rE x.q]
abbrev aX (x : Tp) : S := .agg (eX x)
abbrev x0 : Tp := ⟨false, false, 0, 0, 0, 0, 0, 0, [], [], s0, []⟩
abbrev smX (x : Tp) : Prop := x.pa.length < 900 ∧ x.ks.length < 900 ∧ smL x.s ∧ x.q.length < 900
def lnk (t self n : Int) : Bool := decide (n = 0) || (decide (n > 0) && nr t (IntKind.i64.wrap (n - 1)) self)
theorem e107 (N d : Nat) (t self n : Int) : TT N (d + 6) 107 [iV t, iV self, iV n] = some (bV (lnk t self n), []) := by
  have hn := fun d a b => KA.e129 N d t a b
  rw [t107, F_ev rfl]
  unfold lnk
  by_cases h1 : n = 0
  · simp only [hn, decide_eq_true h1, Bool.true_or, j107, b107, q107, qq, ww, List.replicate, Nat.reduceBEq, Nat.reduceAdd, Nat.reduceMul, Nat.reduceDiv, Nat.reduceEqDiff, Nat.reduceLeDiff, Nat.reduceLT, Int.reduceEq, Int.reduceNe, Int.reduceLT, Int.reduceLE, Int.reduceAdd, Int.reduceSub, Int.reduceMul, Int.reduceNeg, Int.reduceToNat, reduceCtorEq, reduceIte, if_true, if_false]
  by_cases h2 : n > 0
  · simp only [hn, decide_eq_false h1, decide_eq_true h2, Bool.false_or, Bool.true_and, j107, b107, q107, qq, ww, List.replicate, Nat.reduceBEq, Nat.reduceAdd, Nat.reduceMul, Nat.reduceDiv, Nat.reduceEqDiff, Nat.reduceLeDiff, Nat.reduceLT, Int.reduceEq, Int.reduceNe, Int.reduceLT, Int.reduceLE, Int.reduceAdd, Int.reduceSub, Int.reduceMul, Int.reduceNeg, Int.reduceToNat, reduceCtorEq, reduceIte, if_true, if_false]
  · simp only [hn, decide_eq_false h1, decide_eq_false h2, Bool.false_or, Bool.false_and, j107, b107, q107, qq, ww, List.replicate, Nat.reduceBEq, Nat.reduceAdd, Nat.reduceMul, Nat.reduceDiv, Nat.reduceEqDiff, Nat.reduceLeDiff, Nat.reduceLT, Int.reduceEq, Int.reduceNe, Int.reduceLT, Int.reduceLE, Int.reduceAdd, Int.reduceSub, Int.reduceMul, Int.reduceNeg, Int.reduceToNat, reduceCtorEq, reduceIte, if_true, if_false]
theorem e41 (N d : Nat) (e : Int) : TT N (d + 4) 41 [iV e] = some (.tup [iV (if epOK e then e.tmod 16 else 0), iV (if epOK e then 0 else 1)], []) := by
  have h1 := fun d => QA.e45 N d e
  rw [t41, F_ev rfl]
  cases h : epOK e with
  | false =>
    rw [h] at h1
    simp only [h1, j41, b41, q41, qq, ww, List.replicate, Nat.reduceBEq, Nat.reduceAdd, Nat.reduceMul, Nat.reduceDiv, Nat.reduceEqDiff, Nat.reduceLeDiff, Nat.reduceLT, Int.reduceEq, Int.reduceNe, Int.reduceLT, Int.reduceLE, Int.reduceAdd, Int.reduceSub, Int.reduceMul, Int.reduceNeg, Int.reduceToNat, reduceCtorEq, reduceIte, if_true, if_false]
    try rfl
  | true =>
    rw [h] at h1
    have hb : 1 ≤ e ∧ e ≤ 1073741824 := by simp [epOK, QA.inB] at h; omega
    have hm := Int.tmod_nonneg 16 (show 0 ≤ e by omega)
    have hm2 := Int.tmod_lt_of_pos e (show 0 < 16 by omega)
    have hw : IntKind.i64.wrap (e.tmod 16) = e.tmod 16 := IntWalk.i64_in _ (by omega)
    simp only [h1, hw, if_true, j41, b41, q41, qq, ww, List.replicate, Nat.reduceBEq, Nat.reduceAdd, Nat.reduceMul, Nat.reduceDiv, Nat.reduceEqDiff, Nat.reduceLeDiff, Nat.reduceLT, Int.reduceEq, Int.reduceNe, Int.reduceLT, Int.reduceLE, Int.reduceAdd, Int.reduceSub, Int.reduceMul, Int.reduceNeg, Int.reduceToNat, reduceCtorEq, reduceIte, if_true, if_false]
    try rfl
def rtd (self : Int) (x : Tp) : Bool := decide (x.r = 0) || (epOK x.r && (decide (x.r.tmod 16 = self) && (decide (x.r ≤ x.t) && (decide (x.p = 0) && decide (x.s.e = x.r)))))
theorem e108 (N d : Nat) (self : Int) (x : Tp) : TT N (d + 5) 108 [iV self, aX x] = some (bV (rtd self x), []) := by
  have h1 := fun d => e41 N d x.r
  rw [t108, F_ev rfl]
  unfold rtd
  by_cases g : x.r = 0
  · simp only [h1, decide_eq_true g, Bool.true_or, j108, b108, q108, qq, ww, List.replicate, Nat.reduceBEq, Nat.reduceAdd, Nat.reduceMul, Nat.reduceDiv, Nat.reduceEqDiff, Nat.reduceLeDiff, Nat.reduceLT, Int.reduceEq, Int.reduceNe, Int.reduceLT, Int.reduceLE, Int.reduceAdd, Int.reduceSub, Int.reduceMul, Int.reduceNeg, Int.reduceToNat, reduceCtorEq, reduceIte, if_true, if_false]
  cases h : epOK x.r with
  | false =>
    rw [h] at h1
    simp only [h1, decide_eq_false g, Bool.false_or, Bool.false_and, j108, b108, q108, qq, ww, List.replicate, Nat.reduceBEq, Nat.reduceAdd, Nat.reduceMul, Nat.reduceDiv, Nat.reduceEqDiff, Nat.reduceLeDiff, Nat.reduceLT, Int.reduceEq, Int.reduceNe, Int.reduceLT, Int.reduceLE, Int.reduceAdd, Int.reduceSub, Int.reduceMul, Int.reduceNeg, Int.reduceToNat, reduceCtorEq, reduceIte, if_true, if_false]
    try rfl
  | true =>
    rw [h] at h1
    simp only [h1, decide_eq_false g, Bool.false_or, Bool.true_and, if_true, j108, b108, q108, qq, ww, List.replicate, Nat.reduceBEq, Nat.reduceAdd, Nat.reduceMul, Nat.reduceDiv, Nat.reduceEqDiff, Nat.reduceLeDiff, Nat.reduceLT, Int.reduceEq, Int.reduceNe, Int.reduceLT, Int.reduceLE, Int.reduceAdd, Int.reduceSub, Int.reduceMul, Int.reduceNeg, Int.reduceToNat, reduceCtorEq, reduceIte, if_true, if_false]
    by_cases g1 : x.r.tmod 16 = self
    · by_cases g2 : x.r ≤ x.t
      · by_cases g3 : x.p = 0
        · simp only [decide_eq_true g1, decide_eq_true g2, decide_eq_true g3, Bool.true_and, j108, b108, q108, qq, ww, List.replicate, Nat.reduceBEq, Nat.reduceAdd, Nat.reduceMul, Nat.reduceDiv, Nat.reduceEqDiff, Nat.reduceLeDiff, Nat.reduceLT, Int.reduceEq, Int.reduceNe, Int.reduceLT, Int.reduceLE, Int.reduceAdd, Int.reduceSub, Int.reduceMul, Int.reduceNeg, Int.reduceToNat, reduceCtorEq, reduceIte, if_true, if_false]
        · simp only [decide_eq_true g1, decide_eq_true g2, decide_eq_false g3, Bool.true_and, Bool.false_and, j108, b108, q108, qq, ww, List.replicate, Nat.reduceBEq, Nat.reduceAdd, Nat.reduceMul, Nat.reduceDiv, Nat.reduceEqDiff, Nat.reduceLeDiff, Nat.reduceLT, Int.reduceEq, Int.reduceNe, Int.reduceLT, Int.reduceLE, Int.reduceAdd, Int.reduceSub, Int.reduceMul, Int.reduceNeg, Int.reduceToNat, reduceCtorEq, reduceIte, if_true, if_false]
      · simp only [decide_eq_true g1, decide_eq_false g2, Bool.true_and, Bool.false_and, j108, b108, q108, qq, ww, List.replicate, Nat.reduceBEq, Nat.reduceAdd, Nat.reduceMul, Nat.reduceDiv, Nat.reduceEqDiff, Nat.reduceLeDiff, Nat.reduceLT, Int.reduceEq, Int.reduceNe, Int.reduceLT, Int.reduceLE, Int.reduceAdd, Int.reduceSub, Int.reduceMul, Int.reduceNeg, Int.reduceToNat, reduceCtorEq, reduceIte, if_true, if_false]
    · simp only [decide_eq_false g1, Bool.false_and, j108, b108, q108, qq, ww, List.replicate, Nat.reduceBEq, Nat.reduceAdd, Nat.reduceMul, Nat.reduceDiv, Nat.reduceEqDiff, Nat.reduceLeDiff, Nat.reduceLT, Int.reduceEq, Int.reduceNe, Int.reduceLT, Int.reduceLE, Int.reduceAdd, Int.reduceSub, Int.reduceMul, Int.reduceNeg, Int.reduceToNat, reduceCtorEq, reduceIte, if_true, if_false]
def plc (x : Tp) : Bool := match x.pa with
  | [] => decide (x.p = 0)
  | y :: _ => decide (x.p = IntKind.i64.wrap (y + 1))
theorem e109 (N d : Nat) (x : Tp) : TT N (d + 1) 109 [aX x] = some (bV (plc x), []) := by
  rw [t109, F_ev rfl]
  unfold plc
  cases h : x.pa with
  | nil => simp only [h, List.map_nil, List.length_nil, j109, b109, q109, qq, ww, List.replicate, Nat.reduceBEq, Nat.reduceAdd, Nat.reduceMul, Nat.reduceDiv, Nat.reduceEqDiff, Nat.reduceLeDiff, Nat.reduceLT, Int.reduceEq, Int.reduceNe, Int.reduceLT, Int.reduceLE, Int.reduceAdd, Int.reduceSub, Int.reduceMul, Int.reduceNeg, Int.reduceToNat, reduceCtorEq, reduceIte, if_true, if_false]; try rfl
  | cons y r =>
    have h1 : decide (((r.length + 1 : Nat) : Int) = 0) = false := by simp; omega
    have h2 : (0 : Int) ≤ 0 ∧ (0 : Int) < ((r.length + 1 : Nat) : Int) := by omega
    simp only [h, h1, h2.1, h2.2, List.map_cons, List.length_cons, List.length_map, j109, b109, q109, qq, ww, List.replicate, Nat.reduceBEq, Nat.reduceAdd, Nat.reduceMul, Nat.reduceDiv, Nat.reduceEqDiff, Nat.reduceLeDiff, Nat.reduceLT, Int.reduceEq, Int.reduceNe, Int.reduceLT, Int.reduceLE, Int.reduceAdd, Int.reduceSub, Int.reduceMul, Int.reduceNeg, Int.reduceToNat, reduceCtorEq, reduceIte, if_true, if_false]
    try rfl
def rgtB (c : Cf) (t self : Int) (x : Tp) : Bool := decide (0 ≤ x.t) && (decide (x.t ≤ 1073741824) && (decide (0 ≤ x.g) && (decide (x.g ≤ 1000) && (lnk t self x.p && (lnk t self x.a && (lnk t self x.o && (rtd self x && (plc x && (decide (pthC t self x.pa c.d = 0) && (kOK t self c.k x.ks && decide (flowC c x.s x.q = 0)))))))))))
theorem e76 (N d : Nat) (hN : 1000 ≤ N) (c : Cf) (t self : Int) (x : Tp) (hx : smX x) : TT N (d + 12) 76 [.agg (eC c), iV t, iV self, aX x] = some (bV (rgtB c t self x), []) := by
  have k1 := fun d n => e107 N d t self n
  have k2 := fun d => e108 N d self x
  have k3 := fun d => e109 N d x
  have k4 := fun d => e110 N d t self x.pa c.d (by omega) (by omega)
  have k5 := fun d => KA.e111 N d t self c.k x.ks (by omega) (by omega)
  have k6 := fun d => FA.e21 N d hN c x.s x.q hx.2.2.1 hx.2.2.2
  rw [t76, F_ev rfl]
  unfold rgtB
  by_cases g1 : x.t < 0
  · simp only [decide_eq_true g1, decide_eq_false (show ¬ 0 ≤ x.t by omega), Bool.false_and, j76, b76, q76, qq, ww, List.replicate, Nat.reduceBEq, Nat.reduceAdd, Nat.reduceMul, Nat.reduceDiv, Nat.reduceEqDiff, Nat.reduceLeDiff, Nat.reduceLT, Int.reduceEq, Int.reduceNe, Int.reduceLT, Int.reduceLE, Int.reduceAdd, Int.reduceSub, Int.reduceMul, Int.reduceNeg, Int.reduceToNat, reduceCtorEq, reduceIte, if_true, if_false]
  by_cases g2 : x.t > 1073741824
  · simp only [decide_eq_false g1, decide_eq_true g2, decide_eq_true (show 0 ≤ x.t by omega), decide_eq_false (show ¬ x.t ≤ 1073741824 by omega), Bool.false_and, Bool.true_and, j76, b76, q76, qq, ww, List.replicate, Nat.reduceBEq, Nat.reduceAdd, Nat.reduceMul, Nat.reduceDiv, Nat.reduceEqDiff, Nat.reduceLeDiff, Nat.reduceLT, Int.reduceEq, Int.reduceNe, Int.reduceLT, Int.reduceLE, Int.reduceAdd, Int.reduceSub, Int.reduceMul, Int.reduceNeg, Int.reduceToNat, reduceCtorEq, reduceIte, if_true, if_false]
  by_cases g3 : x.g < 0
  · simp only [decide_eq_false g1, decide_eq_false g2, decide_eq_true g3, decide_eq_false (show ¬ 0 ≤ x.g by omega), Bool.false_and, Bool.and_false, j76, b76, q76, qq, ww, List.replicate, Nat.reduceBEq, Nat.reduceAdd, Nat.reduceMul, Nat.reduceDiv, Nat.reduceEqDiff, Nat.reduceLeDiff, Nat.reduceLT, Int.reduceEq, Int.reduceNe, Int.reduceLT, Int.reduceLE, Int.reduceAdd, Int.reduceSub, Int.reduceMul, Int.reduceNeg, Int.reduceToNat, reduceCtorEq, reduceIte, if_true, if_false]
  by_cases g4 : x.g > 1000
  · simp only [decide_eq_false g1, decide_eq_false g2, decide_eq_false g3, decide_eq_true g4, decide_eq_false (show ¬ x.g ≤ 1000 by omega), Bool.false_and, Bool.and_false, j76, b76, q76, qq, ww, List.replicate, Nat.reduceBEq, Nat.reduceAdd, Nat.reduceMul, Nat.reduceDiv, Nat.reduceEqDiff, Nat.reduceLeDiff, Nat.reduceLT, Int.reduceEq, Int.reduceNe, Int.reduceLT, Int.reduceLE, Int.reduceAdd, Int.reduceSub, Int.reduceMul, Int.reduceNeg, Int.reduceToNat, reduceCtorEq, reduceIte, if_true, if_false]
  simp only [decide_eq_true (show 0 ≤ x.t by omega), decide_eq_true (show x.t ≤ 1073741824 by omega), decide_eq_true (show 0 ≤ x.g by omega), decide_eq_true (show x.g ≤ 1000 by omega), Bool.true_and]
  cases g5 : lnk t self x.p with
  | false => simp only [decide_eq_false g1, decide_eq_false g2, decide_eq_false g3, decide_eq_false g4, k1, g5, Bool.false_and, j76, b76, q76, qq, ww, List.replicate, Nat.reduceBEq, Nat.reduceAdd, Nat.reduceMul, Nat.reduceDiv, Nat.reduceEqDiff, Nat.reduceLeDiff, Nat.reduceLT, Int.reduceEq, Int.reduceNe, Int.reduceLT, Int.reduceLE, Int.reduceAdd, Int.reduceSub, Int.reduceMul, Int.reduceNeg, Int.reduceToNat, reduceCtorEq, reduceIte, if_true, if_false]
  | true =>
  cases g6 : lnk t self x.a with
  | false => simp only [decide_eq_false g1, decide_eq_false g2, decide_eq_false g3, decide_eq_false g4, k1, g5, g6, Bool.false_and, Bool.true_and, j76, b76, q76, qq, ww, List.replicate, Nat.reduceBEq, Nat.reduceAdd, Nat.reduceMul, Nat.reduceDiv, Nat.reduceEqDiff, Nat.reduceLeDiff, Nat.reduceLT, Int.reduceEq, Int.reduceNe, Int.reduceLT, Int.reduceLE, Int.reduceAdd, Int.reduceSub, Int.reduceMul, Int.reduceNeg, Int.reduceToNat, reduceCtorEq, reduceIte, if_true, if_false]
  | true =>
  cases g7 : lnk t self x.o with
  | false => simp only [decide_eq_false g1, decide_eq_false g2, decide_eq_false g3, decide_eq_false g4, k1, g5, g6, g7, Bool.false_and, Bool.true_and, j76, b76, q76, qq, ww, List.replicate, Nat.reduceBEq, Nat.reduceAdd, Nat.reduceMul, Nat.reduceDiv, Nat.reduceEqDiff, Nat.reduceLeDiff, Nat.reduceLT, Int.reduceEq, Int.reduceNe, Int.reduceLT, Int.reduceLE, Int.reduceAdd, Int.reduceSub, Int.reduceMul, Int.reduceNeg, Int.reduceToNat, reduceCtorEq, reduceIte, if_true, if_false]
  | true =>
  cases g8 : rtd self x with
  | false => simp only [decide_eq_false g1, decide_eq_false g2, decide_eq_false g3, decide_eq_false g4, k1, k2, g5, g6, g7, g8, Bool.false_and, Bool.true_and, j76, b76, q76, qq, ww, List.replicate, Nat.reduceBEq, Nat.reduceAdd, Nat.reduceMul, Nat.reduceDiv, Nat.reduceEqDiff, Nat.reduceLeDiff, Nat.reduceLT, Int.reduceEq, Int.reduceNe, Int.reduceLT, Int.reduceLE, Int.reduceAdd, Int.reduceSub, Int.reduceMul, Int.reduceNeg, Int.reduceToNat, reduceCtorEq, reduceIte, if_true, if_false]
  | true =>
  cases g9 : plc x with
  | false => simp only [decide_eq_false g1, decide_eq_false g2, decide_eq_false g3, decide_eq_false g4, k1, k2, k3, g5, g6, g7, g8, g9, Bool.false_and, Bool.true_and, j76, b76, q76, qq, ww, List.replicate, Nat.reduceBEq, Nat.reduceAdd, Nat.reduceMul, Nat.reduceDiv, Nat.reduceEqDiff, Nat.reduceLeDiff, Nat.reduceLT, Int.reduceEq, Int.reduceNe, Int.reduceLT, Int.reduceLE, Int.reduceAdd, Int.reduceSub, Int.reduceMul, Int.reduceNeg, Int.reduceToNat, reduceCtorEq, reduceIte, if_true, if_false]
  | true =>
  by_cases g10 : pthC t self x.pa c.d = 0
  · cases g11 : kOK t self c.k x.ks with
    | false =>
      rw [g11] at k5
      simp only [decide_eq_false g1, decide_eq_false g2, decide_eq_false g3, decide_eq_false g4, k1, k2, k3, k4, k5, g5, g6, g7, g8, g9, decide_eq_true g10, Bool.false_and, Bool.true_and, j76, b76, q76, qq, ww, List.replicate, Nat.reduceBEq, Nat.reduceAdd, Nat.reduceMul, Nat.reduceDiv, Nat.reduceEqDiff, Nat.reduceLeDiff, Nat.reduceLT, Int.reduceEq, Int.reduceNe, Int.reduceLT, Int.reduceLE, Int.reduceAdd, Int.reduceSub, Int.reduceMul, Int.reduceNeg, Int.reduceToNat, reduceCtorEq, reduceIte, if_true, if_false]
      try rfl
    | true =>
      rw [g11] at k5
      simp only [decide_eq_false g1, decide_eq_false g2, decide_eq_false g3, decide_eq_false g4, k1, k2, k3, k4, k5, k6, g5, g6, g7, g8, g9, decide_eq_true g10, if_true, Bool.false_and, Bool.true_and, j76, b76, q76, qq, ww, List.replicate, Nat.reduceBEq, Nat.reduceAdd, Nat.reduceMul, Nat.reduceDiv, Nat.reduceEqDiff, Nat.reduceLeDiff, Nat.reduceLT, Int.reduceEq, Int.reduceNe, Int.reduceLT, Int.reduceLE, Int.reduceAdd, Int.reduceSub, Int.reduceMul, Int.reduceNeg, Int.reduceToNat, reduceCtorEq, reduceIte, if_true, if_false]
      try rfl
  · simp only [decide_eq_false g1, decide_eq_false g2, decide_eq_false g3, decide_eq_false g4, k1, k2, k3, k4, g5, g6, g7, g8, g9, decide_eq_false g10, Bool.false_and, Bool.true_and, j76, b76, q76, qq, ww, List.replicate, Nat.reduceBEq, Nat.reduceAdd, Nat.reduceMul, Nat.reduceDiv, Nat.reduceEqDiff, Nat.reduceLeDiff, Nat.reduceLT, Int.reduceEq, Int.reduceNe, Int.reduceLT, Int.reduceLE, Int.reduceAdd, Int.reduceSub, Int.reduceMul, Int.reduceNeg, Int.reduceToNat, reduceCtorEq, reduceIte, if_true, if_false]
def grC (c : Cf) (t self : Int) (x : Tp) : Int := if okC c then (if decide (0 ≤ t) && (decide (t < c.t) && (decide (0 ≤ self) && (decide (self < c.n) && rgtB c t self x))) then 0 else 1) else 13
theorem e35 (N d : Nat) (hN : 1000 ≤ N) (c : Cf) (t self : Int) (x : Tp) (hx : smX x) : TT N (d + 13) 35 [.agg (eC c), iV t, iV self, aX x] = some (iV (grC c t self x), []) := by
  have k1 := fun d => EC.e62 N d c (by omega)
  have k2 := fun d => e76 N d hN c t self x hx
  rw [t35, F_ev rfl]
  unfold grC
  cases g0 : okC c with
  | false =>
    rw [g0] at k1
    simp only [k1, j35, b35, q35, qq, ww, List.replicate, Nat.reduceBEq, Nat.reduceAdd, Nat.reduceMul, Nat.reduceDiv, Nat.reduceEqDiff, Nat.reduceLeDiff, Nat.reduceLT, Int.reduceEq, Int.reduceNe, Int.reduceLT, Int.reduceLE, Int.reduceAdd, Int.reduceSub, Int.reduceMul, Int.reduceNeg, Int.reduceToNat, reduceCtorEq, reduceIte, if_true, if_false]
    try rfl
  | true =>
  rw [g0] at k1
  by_cases g1 : t < 0
  · simp only [k1, if_true, decide_eq_true g1, decide_eq_false (show ¬ 0 ≤ t by omega), Bool.false_and, j35, b35, q35, qq, ww, List.replicate, Nat.reduceBEq, Nat.reduceAdd, Nat.reduceMul, Nat.reduceDiv, Nat.reduceEqDiff, Nat.reduceLeDiff, Nat.reduceLT, Int.reduceEq, Int.reduceNe, Int.reduceLT, Int.reduceLE, Int.reduceAdd, Int.reduceSub, Int.reduceMul, Int.reduceNeg, Int.reduceToNat, reduceCtorEq, reduceIte, if_true, if_false]
    try rfl
  by_cases g2 : t ≥ c.t
  · simp only [k1, if_true, decide_eq_false g1, decide_eq_true g2, decide_eq_false (show ¬ t < c.t by omega), Bool.false_and, Bool.and_false, j35, b35, q35, qq, ww, List.replicate, Nat.reduceBEq, Nat.reduceAdd, Nat.reduceMul, Nat.reduceDiv, Nat.reduceEqDiff, Nat.reduceLeDiff, Nat.reduceLT, Int.reduceEq, Int.reduceNe, Int.reduceLT, Int.reduceLE, Int.reduceAdd, Int.reduceSub, Int.reduceMul, Int.reduceNeg, Int.reduceToNat, reduceCtorEq, reduceIte, if_true, if_false]
    try rfl
  by_cases g3 : self < 0
  · simp only [k1, if_true, decide_eq_false g1, decide_eq_false g2, decide_eq_true g3, decide_eq_false (show ¬ 0 ≤ self by omega), Bool.false_and, Bool.and_false, j35, b35, q35, qq, ww, List.replicate, Nat.reduceBEq, Nat.reduceAdd, Nat.reduceMul, Nat.reduceDiv, Nat.reduceEqDiff, Nat.reduceLeDiff, Nat.reduceLT, Int.reduceEq, Int.reduceNe, Int.reduceLT, Int.reduceLE, Int.reduceAdd, Int.reduceSub, Int.reduceMul, Int.reduceNeg, Int.reduceToNat, reduceCtorEq, reduceIte, if_true, if_false]
    try rfl
  by_cases g4 : self ≥ c.n
  · simp only [k1, if_true, decide_eq_false g1, decide_eq_false g2, decide_eq_false g3, decide_eq_true g4, decide_eq_false (show ¬ self < c.n by omega), Bool.false_and, Bool.and_false, j35, b35, q35, qq, ww, List.replicate, Nat.reduceBEq, Nat.reduceAdd, Nat.reduceMul, Nat.reduceDiv, Nat.reduceEqDiff, Nat.reduceLeDiff, Nat.reduceLT, Int.reduceEq, Int.reduceNe, Int.reduceLT, Int.reduceLE, Int.reduceAdd, Int.reduceSub, Int.reduceMul, Int.reduceNeg, Int.reduceToNat, reduceCtorEq, reduceIte, if_true, if_false]
    try rfl
  cases g5 : rgtB c t self x with
  | false =>
    simp only [k1, k2, if_true, decide_eq_false g1, decide_eq_false g2, decide_eq_false g3, decide_eq_false g4, g5, Bool.and_false, j35, b35, q35, qq, ww, List.replicate, Nat.reduceBEq, Nat.reduceAdd, Nat.reduceMul, Nat.reduceDiv, Nat.reduceEqDiff, Nat.reduceLeDiff, Nat.reduceLT, Int.reduceEq, Int.reduceNe, Int.reduceLT, Int.reduceLE, Int.reduceAdd, Int.reduceSub, Int.reduceMul, Int.reduceNeg, Int.reduceToNat, reduceCtorEq, reduceIte, if_true, if_false]
    try rfl
  | true =>
    simp only [k1, k2, if_true, decide_eq_false g1, decide_eq_false g2, decide_eq_false g3, decide_eq_false g4, g5, decide_eq_true (show 0 ≤ t by omega), decide_eq_true (show t < c.t by omega), decide_eq_true (show 0 ≤ self by omega), decide_eq_true (show self < c.n by omega), Bool.and_self, j35, b35, q35, qq, ww, List.replicate, Nat.reduceBEq, Nat.reduceAdd, Nat.reduceMul, Nat.reduceDiv, Nat.reduceEqDiff, Nat.reduceLeDiff, Nat.reduceLT, Int.reduceEq, Int.reduceNe, Int.reduceLT, Int.reduceLE, Int.reduceAdd, Int.reduceSub, Int.reduceMul, Int.reduceNeg, Int.reduceToNat, reduceCtorEq, reduceIte, if_true, if_false]
theorem all1' (l : List Int) : (l.map eI).all (fun x => x.length == 1) = true := by simp
theorem e105 (N d : Nat) (l : List Int) (hl : l.length < 1000000) : TT N (d + 1) 105 [.one (rI l)] = some (.one (.sl 0 0 l.length), [(0, .rows 3 1 (l.map eI))]) := by
  rw [t105]
  unfold cloneM
  simp only [List.length_map]
  rw [if_pos ⟨all1' l, by omega⟩]
theorem takeI (l : List Int) : (l.map eI).take l.length = l.map eI := by rw [List.take_of_length_le (by simp)]
theorem takeE (l : List Ev) : (l.map eE).take l.length = l.map eE := by rw [List.take_of_length_le (by simp)]
theorem e72 (N d : Nat) (x : Tp) (hx : smX x) : TT N (d + 3) 72 [aX x] = some (aX x, []) := by
  have h1 := fun d => e105 N d x.pa (by omega)
  have h2 := fun d => KA.e106 N d x.ks (by omega)
  have h3 := fun d => QA.e86 N d x.q (by omega)
  have h4 := fun d => FA.e48 N d x.s hx.2.2.1
  rw [t72, F_ev rfl]
  simp only [h1, h2, h3, h4, takeI, takeK, takeE, List.length_map, j72, b72, q72, qq, ww, List.replicate, Nat.reduceBEq, Nat.reduceAdd, Nat.reduceMul, Nat.reduceDiv, Nat.reduceEqDiff, Nat.reduceLeDiff, Nat.reduceLT, Int.reduceEq, Int.reduceNe, Int.reduceLT, Int.reduceLE, Int.reduceAdd, Int.reduceSub, Int.reduceMul, Int.reduceNeg, Int.reduceToNat, reduceCtorEq, reduceIte, if_true, if_false]
theorem e30 (N d : Nat) (x : Tp) (hx : smX x) : TT N (d + 3) 30 [aX x] = some (aX x, []) := by
  have h1 := fun d => MA.e70 N d x.pa (by omega)
  have h2 := fun d => KA.e71 N d x.ks (by omega)
  have h3 := fun d => QA.e11 N d x.q (by omega)
  have h4 := fun d => FA.e10 N d x.s hx.2.2.1
  rw [t30, F_ev rfl]
  simp only [h1, h2, h3, h4, takeI, takeK, takeE, List.length_map, j30, b30, q30, qq, ww, List.replicate, Nat.reduceBEq, Nat.reduceAdd, Nat.reduceMul, Nat.reduceDiv, Nat.reduceEqDiff, Nat.reduceLeDiff, Nat.reduceLT, Int.reduceEq, Int.reduceNe, Int.reduceLT, Int.reduceLE, Int.reduceAdd, Int.reduceSub, Int.reduceMul, Int.reduceNeg, Int.reduceToNat, reduceCtorEq, reduceIte, if_true, if_false]
end Go.Proofs.YtkfcbpbnoeaheaaGreatDoor.GA
namespace Go.Proofs.YtkfcbpbnoeaheaaGreatDoor.GA
open Go Go.Proofs.YtkfcbpbnoeaheaaGreatDoorR IG
open QA (Ev eE aE rE epOK evOK qOK putE n01)
open AA (It eT aT rT wi takeT allT)
open EC (Cf eC okC)
open FA (Sm eS aS s0 smL flowC rightB heavyB heavy_t)
open KA (Kd eK aK rK nr okT okN kOK inB gap takeK all3)
set_option maxRecDepth 100000
set_option maxHeartbeats 4000000
theorem e34r (N d : Nat) (hN : 1000 ≤ N) (x : Tp) (hx : smX x) : TT N (d + 3) 34 [aX x, aX x] = some (bV true, []) := by
  have h1 : ∀ d, TT N (d + 1) 75 [.one (rI x.pa), .one (rI x.pa)] = some (bV true, []) := fun d => by rw [MA.e75 N d x.pa x.pa (by omega) (by omega)]; simp
  have h2 : ∀ d, TT N (d + 1) 42 [.one (rK x.ks), .one (rK x.ks)] = some (bV true, []) := fun d => by rw [KA.e42 N d x.ks x.ks (by omega) (by omega)]; simp
  have h3 : ∀ d, TT N (d + 2) 16 [aS x.s, aS x.s] = some (bV true, []) := fun d => by rw [FA.e16 N d hN x.s x.s hx.2.2.1]; simp
  have h4 : ∀ d, TT N (d + 1) 17 [.one (rE x.q), .one (rE x.q)] = some (bV true, []) := fun d => by rw [QA.e17 N d x.q x.q (by omega) (by omega)]; simp
  have h5 : ∀ z : Int, decide (z = z) = true := fun z => by simp
  have h6 : ∀ z : Bool, (z == z) = true := fun z => by cases z <;> rfl
  have h7 : ∀ z : Bool, decide (z = z) = true := fun z => by simp
  rw [t34, F_ev rfl]
  simp only [h1, h2, h3, h4, h5, h6, h7, j34, b34, q34, qq, ww, List.replicate, Nat.reduceBEq, Nat.reduceAdd, Nat.reduceMul, Nat.reduceDiv, Nat.reduceEqDiff, Nat.reduceLeDiff, Nat.reduceLT, Int.reduceEq, Int.reduceNe, Int.reduceLT, Int.reduceLE, Int.reduceAdd, Int.reduceSub, Int.reduceMul, Int.reduceNeg, Int.reduceToNat, reduceCtorEq, reduceIte, if_true, if_false]
def nxE (n top : Int) : Int :=
  let e := top - top.tmod 16 + n
  let f := if e ≤ top then e + 16 else e
  if f > 1073741824 then 0 else f
theorem nx_b {n top : Int} (hn : okN n = true) (ht : 0 ≤ top ∧ top ≤ 1073741824) : nxE n top = 0 ∨ (top < nxE n top ∧ nxE n top ≤ 1073741824) := by
  unfold nxE
  dsimp only
  have := KA.inB_t hn
  have hm := Int.tmod_nonneg 16 ht.1
  have hm2 := Int.tmod_lt_of_pos top (show 0 < 16 by omega)
  split <;> split <;> omega
theorem e73 (N d : Nat) (n top : Int) (hn : okN n = true) (ht : 0 ≤ top ∧ top ≤ 1073741824) : TT N (d + 3) 73 [iV n, iV top] = some (.tup [iV (nxE n top), iV (if nxE n top = 0 then 11 else 0)], []) := by
  have h1 := fun d => KA.e83 N d n
  rw [hn] at h1
  have hb := KA.inB_t hn
  have hm := Int.tmod_nonneg 16 ht.1
  have hm2 := Int.tmod_lt_of_pos top (show 0 < 16 by omega)
  have w1 : IntKind.i64.wrap (top.tmod 16) = top.tmod 16 := IntWalk.i64_in _ (by omega)
  have w2 : IntKind.i64.wrap (top - top.tmod 16) = top - top.tmod 16 := IntWalk.i64_in _ (by omega)
  obtain ⟨e, he⟩ : ∃ e, e = top - top.tmod 16 + n := ⟨_, rfl⟩
  have w3 : IntKind.i64.wrap (top - top.tmod 16 + n) = e := by rw [he]; exact IntWalk.i64_in _ (by omega)
  have w4 : IntKind.i64.wrap (e + 16) = e + 16 := IntWalk.i64_in _ (by omega)
  have g1 : decide (top < 0) = false := by simp; omega
  have g2 : decide (top > 1073741824) = false := by simp; omega
  have key : nxE n top = if (if e ≤ top then e + 16 else e) > 1073741824 then 0 else (if e ≤ top then e + 16 else e) := by rw [he]; rfl
  rw [t73, F_ev rfl]
  by_cases g3 : e ≤ top
  · rw [if_pos g3] at key
    by_cases g4 : e + 16 > 1073741824
    · rw [if_pos g4] at key
      simp only [h1, w1, w2, w3, w4, g1, g2, decide_eq_true g3, decide_eq_true g4, key, if_true, j73, b73, q73, qq, ww, List.replicate, Nat.reduceBEq, Nat.reduceAdd, Nat.reduceMul, Nat.reduceDiv, Nat.reduceEqDiff, Nat.reduceLeDiff, Nat.reduceLT, Int.reduceEq, Int.reduceNe, Int.reduceLT, Int.reduceLE, Int.reduceAdd, Int.reduceSub, Int.reduceMul, Int.reduceNeg, Int.reduceToNat, reduceCtorEq, reduceIte, if_true, if_false]
      try rfl
    · rw [if_neg g4] at key
      have g5 : ¬ e + 16 = 0 := by omega
      simp only [h1, w1, w2, w3, w4, g1, g2, decide_eq_true g3, decide_eq_false g4, key, if_neg g5, j73, b73, q73, qq, ww, List.replicate, Nat.reduceBEq, Nat.reduceAdd, Nat.reduceMul, Nat.reduceDiv, Nat.reduceEqDiff, Nat.reduceLeDiff, Nat.reduceLT, Int.reduceEq, Int.reduceNe, Int.reduceLT, Int.reduceLE, Int.reduceAdd, Int.reduceSub, Int.reduceMul, Int.reduceNeg, Int.reduceToNat, reduceCtorEq, reduceIte, if_true, if_false]
      try rfl
  · rw [if_neg g3] at key
    by_cases g4 : e > 1073741824
    · rw [if_pos g4] at key
      simp only [h1, w1, w2, w3, w4, g1, g2, decide_eq_false g3, decide_eq_true g4, key, if_true, j73, b73, q73, qq, ww, List.replicate, Nat.reduceBEq, Nat.reduceAdd, Nat.reduceMul, Nat.reduceDiv, Nat.reduceEqDiff, Nat.reduceLeDiff, Nat.reduceLT, Int.reduceEq, Int.reduceNe, Int.reduceLT, Int.reduceLE, Int.reduceAdd, Int.reduceSub, Int.reduceMul, Int.reduceNeg, Int.reduceToNat, reduceCtorEq, reduceIte, if_true, if_false]
      try rfl
    · rw [if_neg g4] at key
      have g5 : ¬ e = 0 := by omega
      simp only [h1, w1, w2, w3, w4, g1, g2, decide_eq_false g3, decide_eq_false g4, key, if_neg g5, j73, b73, q73, qq, ww, List.replicate, Nat.reduceBEq, Nat.reduceAdd, Nat.reduceMul, Nat.reduceDiv, Nat.reduceEqDiff, Nat.reduceLeDiff, Nat.reduceLT, Int.reduceEq, Int.reduceNe, Int.reduceLT, Int.reduceLE, Int.reduceAdd, Int.reduceSub, Int.reduceMul, Int.reduceNeg, Int.reduceToNat, reduceCtorEq, reduceIte, if_true, if_false]
      try rfl
theorem e77 (N d : Nat) (n top : Int) (hn : okN n = true) (ht : 0 ≤ top ∧ top ≤ 1073741824) : TT N (d + 1) 77 [iV n, iV top] = some (iV (nxE n top), []) := by
  have hb := KA.inB_t hn
  have hm := Int.tmod_nonneg 16 ht.1
  have hm2 := Int.tmod_lt_of_pos top (show 0 < 16 by omega)
  have w1 : IntKind.i64.wrap (top.tmod 16) = top.tmod 16 := IntWalk.i64_in _ (by omega)
  have w2 : IntKind.i64.wrap (top - top.tmod 16) = top - top.tmod 16 := IntWalk.i64_in _ (by omega)
  obtain ⟨e, he⟩ : ∃ e, e = top - top.tmod 16 + n := ⟨_, rfl⟩
  have w3 : IntKind.i64.wrap (top - top.tmod 16 + n) = e := by rw [he]; exact IntWalk.i64_in _ (by omega)
  have w4 : IntKind.i64.wrap (e + 16) = e + 16 := IntWalk.i64_in _ (by omega)
  have key : nxE n top = if (if e ≤ top then e + 16 else e) > 1073741824 then 0 else (if e ≤ top then e + 16 else e) := by rw [he]; rfl
  rw [t77, F_ev rfl]
  by_cases g3 : e ≤ top
  · rw [if_pos g3] at key
    by_cases g4 : e + 16 > 1073741824
    · rw [if_pos g4] at key
      simp only [w1, w2, w3, w4, decide_eq_true g3, decide_eq_true g4, key, j77, b77, q77, qq, ww, List.replicate, Nat.reduceBEq, Nat.reduceAdd, Nat.reduceMul, Nat.reduceDiv, Nat.reduceEqDiff, Nat.reduceLeDiff, Nat.reduceLT, Int.reduceEq, Int.reduceNe, Int.reduceLT, Int.reduceLE, Int.reduceAdd, Int.reduceSub, Int.reduceMul, Int.reduceNeg, Int.reduceToNat, reduceCtorEq, reduceIte, if_true, if_false]
    · rw [if_neg g4] at key
      simp only [w1, w2, w3, w4, decide_eq_true g3, decide_eq_false g4, key, j77, b77, q77, qq, ww, List.replicate, Nat.reduceBEq, Nat.reduceAdd, Nat.reduceMul, Nat.reduceDiv, Nat.reduceEqDiff, Nat.reduceLeDiff, Nat.reduceLT, Int.reduceEq, Int.reduceNe, Int.reduceLT, Int.reduceLE, Int.reduceAdd, Int.reduceSub, Int.reduceMul, Int.reduceNeg, Int.reduceToNat, reduceCtorEq, reduceIte, if_true, if_false]
  · rw [if_neg g3] at key
    by_cases g4 : e > 1073741824
    · rw [if_pos g4] at key
      simp only [w1, w2, w3, w4, decide_eq_false g3, decide_eq_true g4, key, j77, b77, q77, qq, ww, List.replicate, Nat.reduceBEq, Nat.reduceAdd, Nat.reduceMul, Nat.reduceDiv, Nat.reduceEqDiff, Nat.reduceLeDiff, Nat.reduceLT, Int.reduceEq, Int.reduceNe, Int.reduceLT, Int.reduceLE, Int.reduceAdd, Int.reduceSub, Int.reduceMul, Int.reduceNeg, Int.reduceToNat, reduceCtorEq, reduceIte, if_true, if_false]
    · rw [if_neg g4] at key
      simp only [w1, w2, w3, w4, decide_eq_false g3, decide_eq_false g4, key, j77, b77, q77, qq, ww, List.replicate, Nat.reduceBEq, Nat.reduceAdd, Nat.reduceMul, Nat.reduceDiv, Nat.reduceEqDiff, Nat.reduceLeDiff, Nat.reduceLT, Int.reduceEq, Int.reduceNe, Int.reduceLT, Int.reduceLE, Int.reduceAdd, Int.reduceSub, Int.reduceMul, Int.reduceNeg, Int.reduceToNat, reduceCtorEq, reduceIte, if_true, if_false]
theorem e78 (N d : Nat) (x : Tp) (hx : smX x) : TT N (d + 4) 78 [aX x] = some (aX ⟨x.m, x.b, x.t, x.r, 0, 0, 0, 0, [], x.ks, x.s, x.q⟩, []) := by
  have h1 := fun d => e30 N d x hx
  rw [t78, F_ev rfl]
  simp only [h1, j78, b78, q78, qq, ww, List.replicate, Nat.reduceBEq, Nat.reduceAdd, Nat.reduceMul, Nat.reduceDiv, Nat.reduceEqDiff, Nat.reduceLeDiff, Nat.reduceLT, Int.reduceEq, Int.reduceNe, Int.reduceLT, Int.reduceLE, Int.reduceAdd, Int.reduceSub, Int.reduceMul, Int.reduceNeg, Int.reduceToNat, reduceCtorEq, reduceIte, if_true, if_false]
  try rfl
def bcG (self : Int) (x : Tp) : Tp × Int :=
  if x.r ≠ 0 ∧ x.t = x.r then (x, 0)
  else if nxE self x.t = 0 then (x0, 11)
  else (⟨x.m, x.b, nxE self x.t, nxE self x.t, 0, 0, 0, 0, [], x.ks, ⟨nxE self x.t, 1, 1, [], []⟩, x.q⟩, 0)
def bcP (c : Cf) (t self : Int) (x : Tp) : Tp × Int := if grC c t self x = 0 then bcG self x else (x0, grC c t self x)
theorem gr_t {c : Cf} {t self : Int} {x : Tp} (h : grC c t self x = 0) : okC c = true ∧ 0 ≤ t ∧ t < c.t ∧ 0 ≤ self ∧ self < c.n ∧ rgtB c t self x = true ∧ okN self = true ∧ okT t = true ∧ 0 ≤ x.t ∧ x.t ≤ 1073741824 ∧ flowC c x.s x.q = 0 := by
  unfold grC at h
  by_cases h0 : okC c = true
  · rw [if_pos h0] at h
    split at h
    · rename_i h1
      simp only [Bool.and_eq_true, decide_eq_true_eq] at h1
      have hc := FA.okC_t h0
      have h2 := h1.2.2.2.2
      unfold rgtB at h2
      simp only [Bool.and_eq_true, decide_eq_true_eq] at h2
      exact ⟨h0, h1.1, h1.2.1, h1.2.2.1, h1.2.2.2.1, h1.2.2.2.2, by simp [okN, inB]; omega, by simp [okT, inB]; omega, h2.1, h2.2.1, h2.2.2.2.2.2.2.2.2.2.2.2⟩
    · omega
  · rw [if_neg h0] at h; omega
theorem e31 (N d : Nat) (hN : 1000 ≤ N) (c : Cf) (t self : Int) (x : Tp) (hx : smX x) : TT N (d + 14) 31 [.agg (eC c), iV t, iV self, aX x] = some (.tup [aX (bcP c t self x).1, iV (bcP c t self x).2], []) := by
  have h1 := fun d => e35 N d hN c t self x hx
  have h2 := fun d => e72 N d x hx
  have h3 := fun d a b => FA.e47 N d a b
  rw [t31, F_ev rfl]
  unfold bcP
  by_cases g0 : grC c t self x = 0
  · rw [if_pos g0]
    obtain ⟨k1, k2, k3, k4, k5, k6, k7, k8, k9, k10, k11⟩ := gr_t g0
    have h4 := fun d => e73 N d self x.t k7 ⟨k9, k10⟩
    rw [g0] at h1
    unfold bcG
    by_cases g1 : x.r = 0
    · rw [if_neg (by simp [g1])]
      have g1' : decide (x.r = 0) = true := decide_eq_true g1
      by_cases g3 : nxE self x.t = 0
      · rw [if_pos g3] at h4 ⊢
        rw [g3] at h4
        simp only [h1, h2, h3, h4, g1', j31, b31, q31, qq, ww, List.replicate, Nat.reduceBEq, Nat.reduceAdd, Nat.reduceMul, Nat.reduceDiv, Nat.reduceEqDiff, Nat.reduceLeDiff, Nat.reduceLT, Int.reduceEq, Int.reduceNe, Int.reduceLT, Int.reduceLE, Int.reduceAdd, Int.reduceSub, Int.reduceMul, Int.reduceNeg, Int.reduceToNat, reduceCtorEq, reduceIte, if_true, if_false]
        try rfl
      · rw [if_neg g3] at h4 ⊢
        simp only [h1, h2, h3, h4, g1', j31, b31, q31, qq, ww, List.replicate, Nat.reduceBEq, Nat.reduceAdd, Nat.reduceMul, Nat.reduceDiv, Nat.reduceEqDiff, Nat.reduceLeDiff, Nat.reduceLT, Int.reduceEq, Int.reduceNe, Int.reduceLT, Int.reduceLE, Int.reduceAdd, Int.reduceSub, Int.reduceMul, Int.reduceNeg, Int.reduceToNat, reduceCtorEq, reduceIte, if_true, if_false]
        try rfl
    · have g1' : decide (x.r = 0) = false := decide_eq_false g1
      by_cases g2 : x.t = x.r
      · rw [if_pos ⟨g1, g2⟩]
        have g2' : decide (x.t = x.r) = true := decide_eq_true g2
        simp only [h1, h2, g1', g2', j31, b31, q31, qq, ww, List.replicate, Nat.reduceBEq, Nat.reduceAdd, Nat.reduceMul, Nat.reduceDiv, Nat.reduceEqDiff, Nat.reduceLeDiff, Nat.reduceLT, Int.reduceEq, Int.reduceNe, Int.reduceLT, Int.reduceLE, Int.reduceAdd, Int.reduceSub, Int.reduceMul, Int.reduceNeg, Int.reduceToNat, reduceCtorEq, reduceIte, if_true, if_false]
      · rw [if_neg (fun h => g2 h.2)]
        have g2' : decide (x.t = x.r) = false := decide_eq_false g2
        by_cases g3 : nxE self x.t = 0
        · rw [if_pos g3] at h4 ⊢
          rw [g3] at h4
          simp only [h1, h2, h3, h4, g1', g2', j31, b31, q31, qq, ww, List.replicate, Nat.reduceBEq, Nat.reduceAdd, Nat.reduceMul, Nat.reduceDiv, Nat.reduceEqDiff, Nat.reduceLeDiff, Nat.reduceLT, Int.reduceEq, Int.reduceNe, Int.reduceLT, Int.reduceLE, Int.reduceAdd, Int.reduceSub, Int.reduceMul, Int.reduceNeg, Int.reduceToNat, reduceCtorEq, reduceIte, if_true, if_false]
          try rfl
        · rw [if_neg g3] at h4 ⊢
          simp only [h1, h2, h3, h4, g1', g2', j31, b31, q31, qq, ww, List.replicate, Nat.reduceBEq, Nat.reduceAdd, Nat.reduceMul, Nat.reduceDiv, Nat.reduceEqDiff, Nat.reduceLeDiff, Nat.reduceLT, Int.reduceEq, Int.reduceNe, Int.reduceLT, Int.reduceLE, Int.reduceAdd, Int.reduceSub, Int.reduceMul, Int.reduceNeg, Int.reduceToNat, reduceCtorEq, reduceIte, if_true, if_false]
          try rfl
  · rw [if_neg g0]
    have g0' : decide (grC c t self x = 0) = false := decide_eq_false g0
    simp only [h1, g0', j31, b31, q31, qq, ww, List.replicate, Nat.reduceBEq, Nat.reduceAdd, Nat.reduceMul, Nat.reduceDiv, Nat.reduceEqDiff, Nat.reduceLeDiff, Nat.reduceLT, Int.reduceEq, Int.reduceNe, Int.reduceLT, Int.reduceLE, Int.reduceAdd, Int.reduceSub, Int.reduceMul, Int.reduceNeg, Int.reduceToNat, reduceCtorEq, reduceIte, if_true, if_false]
    try rfl
theorem e32 (N d : Nat) (hN : 1000 ≤ N) (c : Cf) (t self : Int) (x : Tp) (hx : smX x) : TT N (d + 14) 32 [.agg (eC c), iV t, iV self, aX x] = some (.tup [aX (if grC c t self x = 0 then ⟨x.m, x.b, x.t, 0, x.p, x.a, x.o, x.g, x.pa, x.ks, x.s, x.q⟩ else x0), iV (grC c t self x)], []) := by
  have h1 := fun d => e35 N d hN c t self x hx
  have h2 := fun d => e72 N d x hx
  rw [t32, F_ev rfl]
  by_cases g0 : grC c t self x = 0
  · rw [if_pos g0]
    rw [g0] at h1 ⊢
    simp only [h1, h2, j32, b32, q32, qq, ww, List.replicate, Nat.reduceBEq, Nat.reduceAdd, Nat.reduceMul, Nat.reduceDiv, Nat.reduceEqDiff, Nat.reduceLeDiff, Nat.reduceLT, Int.reduceEq, Int.reduceNe, Int.reduceLT, Int.reduceLE, Int.reduceAdd, Int.reduceSub, Int.reduceMul, Int.reduceNeg, Int.reduceToNat, reduceCtorEq, reduceIte, if_true, if_false]
    try rfl
  · rw [if_neg g0]
    have g0' : decide (grC c t self x = 0) = false := decide_eq_false g0
    simp only [h1, g0', j32, b32, q32, qq, ww, List.replicate, Nat.reduceBEq, Nat.reduceAdd, Nat.reduceMul, Nat.reduceDiv, Nat.reduceEqDiff, Nat.reduceLeDiff, Nat.reduceLT, Int.reduceEq, Int.reduceNe, Int.reduceLT, Int.reduceLE, Int.reduceAdd, Int.reduceSub, Int.reduceMul, Int.reduceNeg, Int.reduceToNat, reduceCtorEq, reduceIte, if_true, if_false]
    try rfl
theorem e37 (N d : Nat) (self : Int) (x : Tp) (hx : smX x) (hn : okN self = true) (ht : 0 ≤ x.t ∧ x.t ≤ 1073741824) : TT N (d + 5) 37 [iV self, aX x] = some (.tup [aX (bcG self x).1, iV (bcG self x).2], []) := by
  have h1 := fun d => e30 N d x hx
  have h2 := fun d => e77 N d self x.t hn ht
  have h3 := fun d => e78 N d x hx
  have h4 := fun d a b => FA.e65 N d a b
  rw [t37, F_ev rfl]
  unfold bcG
  by_cases g1 : x.r = 0
  · rw [if_neg (by simp [g1])]
    have g1' : decide (x.r = 0) = true := decide_eq_true g1
    by_cases g3 : nxE self x.t = 0
    · rw [if_pos g3]
      rw [g3] at h2
      simp only [h1, h2, h3, h4, g1', j37, b37, q37, qq, ww, List.replicate, Nat.reduceBEq, Nat.reduceAdd, Nat.reduceMul, Nat.reduceDiv, Nat.reduceEqDiff, Nat.reduceLeDiff, Nat.reduceLT, Int.reduceEq, Int.reduceNe, Int.reduceLT, Int.reduceLE, Int.reduceAdd, Int.reduceSub, Int.reduceMul, Int.reduceNeg, Int.reduceToNat, reduceCtorEq, reduceIte, if_true, if_false]
      try rfl
    · rw [if_neg g3]
      have g3' : decide (nxE self x.t = 0) = false := decide_eq_false g3
      simp only [h1, h2, h3, h4, g1', g3', j37, b37, q37, qq, ww, List.replicate, Nat.reduceBEq, Nat.reduceAdd, Nat.reduceMul, Nat.reduceDiv, Nat.reduceEqDiff, Nat.reduceLeDiff, Nat.reduceLT, Int.reduceEq, Int.reduceNe, Int.reduceLT, Int.reduceLE, Int.reduceAdd, Int.reduceSub, Int.reduceMul, Int.reduceNeg, Int.reduceToNat, reduceCtorEq, reduceIte, if_true, if_false]
      try rfl
  · have g1' : decide (x.r = 0) = false := decide_eq_false g1
    by_cases g2 : x.t = x.r
    · rw [if_pos ⟨g1, g2⟩]
      have g2' : decide (x.r = x.t) = true := decide_eq_true g2.symm
      simp only [h1, g1', g2', j37, b37, q37, qq, ww, List.replicate, Nat.reduceBEq, Nat.reduceAdd, Nat.reduceMul, Nat.reduceDiv, Nat.reduceEqDiff, Nat.reduceLeDiff, Nat.reduceLT, Int.reduceEq, Int.reduceNe, Int.reduceLT, Int.reduceLE, Int.reduceAdd, Int.reduceSub, Int.reduceMul, Int.reduceNeg, Int.reduceToNat, reduceCtorEq, reduceIte, if_true, if_false]
    · rw [if_neg (fun h => g2 h.2)]
      have g2' : decide (x.r = x.t) = false := decide_eq_false (fun h => g2 h.symm)
      by_cases g3 : nxE self x.t = 0
      · rw [if_pos g3]
        rw [g3] at h2
        simp only [h1, h2, h3, h4, g1', g2', j37, b37, q37, qq, ww, List.replicate, Nat.reduceBEq, Nat.reduceAdd, Nat.reduceMul, Nat.reduceDiv, Nat.reduceEqDiff, Nat.reduceLeDiff, Nat.reduceLT, Int.reduceEq, Int.reduceNe, Int.reduceLT, Int.reduceLE, Int.reduceAdd, Int.reduceSub, Int.reduceMul, Int.reduceNeg, Int.reduceToNat, reduceCtorEq, reduceIte, if_true, if_false]
        try rfl
      · rw [if_neg g3]
        have g3' : decide (nxE self x.t = 0) = false := decide_eq_false g3
        simp only [h1, h2, h3, h4, g1', g2', g3', j37, b37, q37, qq, ww, List.replicate, Nat.reduceBEq, Nat.reduceAdd, Nat.reduceMul, Nat.reduceDiv, Nat.reduceEqDiff, Nat.reduceLeDiff, Nat.reduceLT, Int.reduceEq, Int.reduceNe, Int.reduceLT, Int.reduceLE, Int.reduceAdd, Int.reduceSub, Int.reduceMul, Int.reduceNeg, Int.reduceToNat, reduceCtorEq, reduceIte, if_true, if_false]
        try rfl
end Go.Proofs.YtkfcbpbnoeaheaaGreatDoor.GA
namespace Go.Proofs.YtkfcbpbnoeaheaaGreatDoor.GA
open Go Go.Proofs.YtkfcbpbnoeaheaaGreatDoorR IG
open QA (Ev eE aE rE epOK evOK qOK putE n01)
open AA (It eT aT rT wi takeT allT take_s)
open EC (Cf eC okC)
open FA (Sm eS aS s0 smL flowC rightB heavyB heavy_t)
open KA (Kd eK aK rK nr okT okN kOK inB gap takeK all3)
set_option maxRecDepth 100000
set_option maxHeartbeats 4000000
structure Dm where
  (n t e s v : Int)
abbrev eD (y : Dm) : List V := [.int .i64 7, .int .i64 0, .int .i64 0, .int .i64 y.n, .int .i64 0, .int .i64 y.t, .int .i64 y.e, .int .i64 y.s, .int .i64 0, .int .i64 y.v, .int .i64 0, .int .i64 0, .int .i64 0, .int .i64 0, .row [], .row []]
abbrev rD (l : List Dm) : V := .row (l.map eD)
def dmK (t e : Int) (x : It) (k : Kd) : Dm := ⟨k.n, t, e, x.s, x.v⟩
def dsL (t e : Int) (ks : List Kd) (on : List It) : List Dm := on.flatMap fun x => ks.map (dmK t e x)
theorem dsL_s {t e : Int} {ks : List Kd} {on : List It} {i : Nat} (h : i < on.length) : dsL t e ks (on.take (i + 1)) = dsL t e ks (on.take i) ++ ks.map (dmK t e on[i]) := by
  unfold dsL
  rw [take_s h, List.flatMap_append]
  simp only [List.flatMap_cons, List.flatMap_nil, List.append_nil]
theorem dsL_len {t e : Int} {ks : List Kd} : ∀ {on : List It}, (dsL t e ks on).length = on.length * ks.length
  | [] => by simp [dsL]
  | x :: r => by
    have := dsL_len (t := t) (e := e) (ks := ks) (on := r)
    simp only [dsL, List.flatMap_cons, List.length_append, List.length_map, List.length_cons] at this ⊢
    rw [this, Nat.succ_mul]
    omega
theorem dsL_le {t e : Int} {ks : List Kd} {on : List It} (h1 : ks.length < 900) (h2 : on.length < 900) : (dsL t e ks on).length < 900000 := by
  rw [dsL_len]
  have := Nat.mul_le_mul (show on.length ≤ 900 by omega) (show ks.length ≤ 900 by omega)
  omega
theorem takeD (l : List Dm) : (l.map eD).take l.length = l.map eD := by rw [List.take_of_length_le (by simp)]
theorem all16 (l : List Dm) : (l.map eD).all (fun x => x.length == 16) = true := by simp
theorem e74 (N d : Nat) (hN : 1000 ≤ N) (t : Int) (x : Tp) (on : List It) (hx : x.ks.length < 900) (ho : on.length < 900) : ans (TT N (d + 1) 74 [iV t, aX x, .one (rT on)]) = some (.one (rD (dsL t x.s.e x.ks on))) := by
  rw [t74, F_ev rfl]
  simp only [List.length_map, j74, b74, q74, qq, ww, List.replicate, Nat.reduceBEq, Nat.reduceAdd, Nat.reduceMul, Nat.reduceDiv, Nat.reduceEqDiff, Nat.reduceLeDiff, Nat.reduceLT, Int.reduceEq, Int.reduceNe, Int.reduceLT, Int.reduceLE, Int.reduceAdd, Int.reduceSub, Int.reduceMul, Int.reduceNeg, Int.reduceToNat, reduceCtorEq, reduceIte, if_true, if_false]
  refine (loopK (K := fun o => ans (fin _ (aft _ _ _ o))) (fun i => ⟨[(0, iV t), (4, .one (.ref 256 0 0)), (7, .one (.sl 448 0 (dsL t x.s.e x.ks (on.take i)).length)), (12, .one (rT on)), (13, iV on.length), (14, iV i)], [(256, .box (eX x)), (448, .rows 77 16 ((dsL t x.s.e x.ks (on.take i)).map eD))]⟩) (fun _ => some (.one (rD (dsL t x.s.e x.ks on)))) on.length ?hr on.length 0 N _ (by omega) (by omega) ?hk)
  case hk => simp only [gcK, lowB, Nat.reduceLeDiff, Nat.reduceBEq, List.contains_nil, List.contains_cons, Bool.or_false, Bool.false_or, Bool.false_eq_true, if_false, Bool.true_and, Bool.and_true, pickL, look_hit, look_miss, look_end, slMent, hpMent, S.ment, S.ment.smt, ments, V.ment, List.append_nil, List.nil_append, List.cons_append, List.all_nil, List.all_cons, Option.isSome_some, Bool.and_self, if_true, reduceIte, Nat.reduceEqDiff, not_false_eq_true, reduceCtorEq, Nat.reduceMul, Nat.reduceAdd]; rfl
  case hr =>
    intro i m hi ih
    (try dsimp only)
    by_cases hlt : i < on.length
    · have h1 : decide ((i : Int) < (on.length : Int)) = true := by simp; omega
      have hg1 : (on.map eT)[i]? = some (eT on[i]) := by simp [hlt]
      have hb : 0 ≤ (i : Int) ∧ (i : Int) < (on.length : Int) := by omega
      have hs := dsL_s (t := t) (e := x.s.e) (ks := x.ks) hlt
      have hA : (dsL t x.s.e x.ks (on.take i)).length < 900000 := dsL_le hx (by rw [List.length_take]; omega)
      rw [hs] at ih
      generalize dsL t x.s.e x.ks (on.take i) = A at *
      simp only [h1, hb.1, hb.2, hg1, List.length_map, Int.toNat_natCast, j74, b74, q74, qq, ww, List.replicate, Nat.reduceBEq, Nat.reduceAdd, Nat.reduceMul, Nat.reduceDiv, Nat.reduceEqDiff, Nat.reduceLeDiff, Nat.reduceLT, Int.reduceEq, Int.reduceNe, Int.reduceLT, Int.reduceLE, Int.reduceAdd, Int.reduceSub, Int.reduceMul, Int.reduceNeg, Int.reduceToNat, reduceCtorEq, reduceIte, if_true, if_false]
      refine loopK (K := fun o => ans (fin _ (aft _ _ _ (goL _ _ _ _ (aft _ _ _ o))))) (fun j => ⟨[(0, iV t), (4, .one (.ref 256 0 0)), (7, .one (.sl 448 0 (A ++ (x.ks.take j).map (dmK t x.s.e on[i])).length)), (9, .one (.ref 576 0 0)), (12, .one (rT on)), (13, iV on.length), (14, iV i), (19, .one (rK x.ks)), (20, iV x.ks.length), (21, iV j)], [(256, .box (eX x)), (448, .rows 77 16 ((A ++ (x.ks.take j).map (dmK t x.s.e on[i])).map eD)), (576, .box (eT on[i]))]⟩) (fun _ => some (.one (rD (dsL t x.s.e x.ks on)))) x.ks.length ?hr2 x.ks.length 0 N _ (by omega) (by omega) ?hk2
      case hk2 => simp only [gcK, lowB, Nat.reduceLeDiff, Nat.reduceBEq, List.contains_nil, List.contains_cons, Bool.or_false, Bool.false_or, Bool.false_eq_true, if_false, Bool.true_and, Bool.and_true, pickL, look_hit, look_miss, look_end, slMent, hpMent, S.ment, S.ment.smt, ments, V.ment, List.append_nil, List.nil_append, List.cons_append, List.all_nil, List.all_cons, Option.isSome_some, Bool.and_self, if_true, reduceIte, Nat.reduceEqDiff, not_false_eq_true, reduceCtorEq, Nat.reduceMul, Nat.reduceAdd]; simp only [List.take_zero, List.map_nil, List.append_nil]; rfl
      case hr2 =>
        intro j m2 hj ih2
        (try dsimp only)
        by_cases hjl : j < x.ks.length
        · have y1 : decide ((j : Int) < (x.ks.length : Int)) = true := by simp; omega
          have y2 : (x.ks.map eK)[j]? = some (eK x.ks[j]) := by simp [hjl]
          have y3 : 0 ≤ (j : Int) ∧ (j : Int) < (x.ks.length : Int) := by omega
          have y4 : (x.ks.take (j + 1)).map (dmK t x.s.e on[i]) = (x.ks.take j).map (dmK t x.s.e on[i]) ++ [dmK t x.s.e on[i] x.ks[j]] := by rw [List.take_succ_eq_append_getElem hjl, List.map_append]; rfl
          rw [y4, ← List.append_assoc] at ih2
          have y5 : (A ++ (x.ks.take j).map (dmK t x.s.e on[i])).length < 910000 := by rw [List.length_append, List.length_map, List.length_take]; omega
          generalize A ++ (x.ks.take j).map (dmK t x.s.e on[i]) = B at *
          have y6 : (B.length + 1) * 160 ≤ 140737488355328 := by omega
          simp only [y1, y3.1, y3.2, y2, y6, takeD, all16, wi j (by omega), List.length_map, Int.toNat_natCast, j74, b74, q74, qq, ww, List.replicate, Nat.reduceBEq, Nat.reduceAdd, Nat.reduceMul, Nat.reduceDiv, Nat.reduceEqDiff, Nat.reduceLeDiff, Nat.reduceLT, Int.reduceEq, Int.reduceNe, Int.reduceLT, Int.reduceLE, Int.reduceAdd, Int.reduceSub, Int.reduceMul, Int.reduceNeg, Int.reduceToNat, reduceCtorEq, reduceIte, if_true, if_false]
          exact ih2 hjl _ (by simp only [gcK, lowB, Nat.reduceLeDiff, Nat.reduceBEq, List.contains_nil, List.contains_cons, Bool.or_false, Bool.false_or, Bool.false_eq_true, if_false, Bool.true_and, Bool.and_true, pickL, look_hit, look_miss, look_end, slMent, hpMent, S.ment, S.ment.smt, ments, V.ment, List.append_nil, List.nil_append, List.cons_append, List.all_nil, List.all_cons, Option.isSome_some, Bool.and_self, if_true, reduceIte, Nat.reduceEqDiff, not_false_eq_true, reduceCtorEq, Nat.reduceMul, Nat.reduceAdd, List.map_append, List.map_cons, List.map_nil, List.length_append, List.length_cons, List.length_nil]; rfl)
        · obtain rfl : j = x.ks.length := by omega
          clear ih2
          have y1 : decide ((x.ks.length : Int) < (x.ks.length : Int)) = false := by simp
          rw [List.take_length]
          simp only [y1, wi i (by omega), List.length_map, j74, b74, q74, qq, ww, List.replicate, Nat.reduceBEq, Nat.reduceAdd, Nat.reduceMul, Nat.reduceDiv, Nat.reduceEqDiff, Nat.reduceLeDiff, Nat.reduceLT, Int.reduceEq, Int.reduceNe, Int.reduceLT, Int.reduceLE, Int.reduceAdd, Int.reduceSub, Int.reduceMul, Int.reduceNeg, Int.reduceToNat, reduceCtorEq, reduceIte, if_true, if_false]
          exact ih hlt _ (by simp only [gcK, lowB, Nat.reduceLeDiff, Nat.reduceBEq, List.contains_nil, List.contains_cons, Bool.or_false, Bool.false_or, Bool.false_eq_true, if_false, Bool.true_and, Bool.and_true, pickL, look_hit, look_miss, look_end, slMent, hpMent, S.ment, S.ment.smt, ments, V.ment, List.append_nil, List.nil_append, List.cons_append, List.all_nil, List.all_cons, Option.isSome_some, Bool.and_self, if_true, reduceIte, Nat.reduceEqDiff, not_false_eq_true, reduceCtorEq, Nat.reduceMul, Nat.reduceAdd, List.map_append, List.length_append, List.length_map])
    · have h1 : decide ((i : Int) < (on.length : Int)) = false := by simp; omega
      rw [List.take_of_length_le (by omega)] at *
      simp only [h1, takeD, List.length_map, j74, b74, q74, qq, ww, List.replicate, Nat.reduceBEq, Nat.reduceAdd, Nat.reduceMul, Nat.reduceDiv, Nat.reduceEqDiff, Nat.reduceLeDiff, Nat.reduceLT, Int.reduceEq, Int.reduceNe, Int.reduceLT, Int.reduceLE, Int.reduceAdd, Int.reduceSub, Int.reduceMul, Int.reduceNeg, Int.reduceToNat, reduceCtorEq, reduceIte, if_true, if_false]
theorem e79 (N d : Nat) (hN : 1000 ≤ N) (t : Int) (x : Tp) (on : List It) (hx : x.ks.length < 900) (ho : on.length < 900) : ans (TT N (d + 1) 79 [iV t, aX x, .one (rT on)]) = some (.one (rD (dsL t x.s.e x.ks on))) := by
  rw [t79, F_ev rfl]
  simp only [List.length_map, j79, b79, q79, qq, ww, List.replicate, Nat.reduceBEq, Nat.reduceAdd, Nat.reduceMul, Nat.reduceDiv, Nat.reduceEqDiff, Nat.reduceLeDiff, Nat.reduceLT, Int.reduceEq, Int.reduceNe, Int.reduceLT, Int.reduceLE, Int.reduceAdd, Int.reduceSub, Int.reduceMul, Int.reduceNeg, Int.reduceToNat, reduceCtorEq, reduceIte, if_true, if_false]
  refine (loopK (K := fun o => ans (fin _ (aft _ _ _ o))) (fun i => ⟨[(0, iV t), (2, .one (rT on)), (4, .one (.ref 256 0 0)), (7, .one (.sl 448 0 (dsL t x.s.e x.ks (on.take i)).length)), (8, iV i)], [(256, .box (eX x)), (448, .rows 77 16 ((dsL t x.s.e x.ks (on.take i)).map eD))]⟩) (fun _ => some (.one (rD (dsL t x.s.e x.ks on)))) on.length ?hr on.length 0 N _ (by omega) (by omega) ?hk)
  case hk => simp only [gcK, lowB, Nat.reduceLeDiff, Nat.reduceBEq, List.contains_nil, List.contains_cons, Bool.or_false, Bool.false_or, Bool.false_eq_true, if_false, Bool.true_and, Bool.and_true, pickL, look_hit, look_miss, look_end, slMent, hpMent, S.ment, S.ment.smt, ments, V.ment, List.append_nil, List.nil_append, List.cons_append, List.all_nil, List.all_cons, Option.isSome_some, Bool.and_self, if_true, reduceIte, Nat.reduceEqDiff, not_false_eq_true, reduceCtorEq, Nat.reduceMul, Nat.reduceAdd]; rfl
  case hr =>
    intro i m hi ih
    (try dsimp only)
    by_cases hlt : i < on.length
    · have h1 : decide ((i : Int) < (on.length : Int)) = true := by simp; omega
      have hg1 : (on.map eT)[i]? = some (eT on[i]) := by simp [hlt]
      have hb : 0 ≤ (i : Int) ∧ (i : Int) < (on.length : Int) := by omega
      have hs := dsL_s (t := t) (e := x.s.e) (ks := x.ks) hlt
      have hA : (dsL t x.s.e x.ks (on.take i)).length < 900000 := dsL_le hx (by rw [List.length_take]; omega)
      rw [hs] at ih
      generalize dsL t x.s.e x.ks (on.take i) = A at *
      simp only [h1, hb.1, hb.2, hg1, List.length_map, Int.toNat_natCast, j79, b79, q79, qq, ww, List.replicate, Nat.reduceBEq, Nat.reduceAdd, Nat.reduceMul, Nat.reduceDiv, Nat.reduceEqDiff, Nat.reduceLeDiff, Nat.reduceLT, Int.reduceEq, Int.reduceNe, Int.reduceLT, Int.reduceLE, Int.reduceAdd, Int.reduceSub, Int.reduceMul, Int.reduceNeg, Int.reduceToNat, reduceCtorEq, reduceIte, if_true, if_false]
      refine loopK (K := fun o => ans (fin _ (aft _ _ _ (goL _ _ _ _ (aft _ _ _ o))))) (fun j => ⟨[(0, iV t), (2, .one (rT on)), (4, .one (.ref 256 0 0)), (7, .one (.sl 448 0 (A ++ (x.ks.take j).map (dmK t x.s.e on[i])).length)), (8, iV i), (9, iV j)], [(256, .box (eX x)), (448, .rows 77 16 ((A ++ (x.ks.take j).map (dmK t x.s.e on[i])).map eD))]⟩) (fun _ => some (.one (rD (dsL t x.s.e x.ks on)))) x.ks.length ?hr2 x.ks.length 0 N _ (by omega) (by omega) ?hk2
      case hk2 => simp only [gcK, lowB, Nat.reduceLeDiff, Nat.reduceBEq, List.contains_nil, List.contains_cons, Bool.or_false, Bool.false_or, Bool.false_eq_true, if_false, Bool.true_and, Bool.and_true, pickL, look_hit, look_miss, look_end, slMent, hpMent, S.ment, S.ment.smt, ments, V.ment, List.append_nil, List.nil_append, List.cons_append, List.all_nil, List.all_cons, Option.isSome_some, Bool.and_self, if_true, reduceIte, Nat.reduceEqDiff, not_false_eq_true, reduceCtorEq, Nat.reduceMul, Nat.reduceAdd]; simp only [List.take_zero, List.map_nil, List.append_nil]; rfl
      case hr2 =>
        intro j m2 hj ih2
        (try dsimp only)
        by_cases hjl : j < x.ks.length
        · have y1 : decide ((j : Int) < (x.ks.length : Int)) = true := by simp; omega
          have y2 : (x.ks.map eK)[j]? = some (eK x.ks[j]) := by simp [hjl]
          have y3 : 0 ≤ (j : Int) ∧ (j : Int) < (x.ks.length : Int) := by omega
          have y4 : (x.ks.take (j + 1)).map (dmK t x.s.e on[i]) = (x.ks.take j).map (dmK t x.s.e on[i]) ++ [dmK t x.s.e on[i] x.ks[j]] := by rw [List.take_succ_eq_append_getElem hjl, List.map_append]; rfl
          rw [y4, ← List.append_assoc] at ih2
          have y5 : (A ++ (x.ks.take j).map (dmK t x.s.e on[i])).length < 910000 := by rw [List.length_append, List.length_map, List.length_take]; omega
          generalize A ++ (x.ks.take j).map (dmK t x.s.e on[i]) = B at *
          have y6 : (B.length + 1) * 160 ≤ 140737488355328 := by omega
          simp only [y1, y3.1, y3.2, y2, y6, hb.1, hb.2, hg1, takeD, all16, wi j (by omega), List.length_map, Int.toNat_natCast, j79, b79, q79, qq, ww, List.replicate, Nat.reduceBEq, Nat.reduceAdd, Nat.reduceMul, Nat.reduceDiv, Nat.reduceEqDiff, Nat.reduceLeDiff, Nat.reduceLT, Int.reduceEq, Int.reduceNe, Int.reduceLT, Int.reduceLE, Int.reduceAdd, Int.reduceSub, Int.reduceMul, Int.reduceNeg, Int.reduceToNat, reduceCtorEq, reduceIte, if_true, if_false]
          exact ih2 hjl _ (by simp only [gcK, lowB, Nat.reduceLeDiff, Nat.reduceBEq, List.contains_nil, List.contains_cons, Bool.or_false, Bool.false_or, Bool.false_eq_true, if_false, Bool.true_and, Bool.and_true, pickL, look_hit, look_miss, look_end, slMent, hpMent, S.ment, S.ment.smt, ments, V.ment, List.append_nil, List.nil_append, List.cons_append, List.all_nil, List.all_cons, Option.isSome_some, Bool.and_self, if_true, reduceIte, Nat.reduceEqDiff, not_false_eq_true, reduceCtorEq, Nat.reduceMul, Nat.reduceAdd, List.map_append, List.map_cons, List.map_nil, List.length_append, List.length_cons, List.length_nil]; rfl)
        · obtain rfl : j = x.ks.length := by omega
          clear ih2
          have y1 : decide ((x.ks.length : Int) < (x.ks.length : Int)) = false := by simp
          rw [List.take_length]
          simp only [y1, wi i (by omega), List.length_map, j79, b79, q79, qq, ww, List.replicate, Nat.reduceBEq, Nat.reduceAdd, Nat.reduceMul, Nat.reduceDiv, Nat.reduceEqDiff, Nat.reduceLeDiff, Nat.reduceLT, Int.reduceEq, Int.reduceNe, Int.reduceLT, Int.reduceLE, Int.reduceAdd, Int.reduceSub, Int.reduceMul, Int.reduceNeg, Int.reduceToNat, reduceCtorEq, reduceIte, if_true, if_false]
          exact ih hlt _ (by simp only [gcK, lowB, Nat.reduceLeDiff, Nat.reduceBEq, List.contains_nil, List.contains_cons, Bool.or_false, Bool.false_or, Bool.false_eq_true, if_false, Bool.true_and, Bool.and_true, pickL, look_hit, look_miss, look_end, slMent, hpMent, S.ment, S.ment.smt, ments, V.ment, List.append_nil, List.nil_append, List.cons_append, List.all_nil, List.all_cons, Option.isSome_some, Bool.and_self, if_true, reduceIte, Nat.reduceEqDiff, not_false_eq_true, reduceCtorEq, Nat.reduceMul, Nat.reduceAdd, List.map_append, List.length_append, List.length_map])
    · have h1 : decide ((i : Int) < (on.length : Int)) = false := by simp; omega
      rw [List.take_of_length_le (by omega)] at *
      simp only [h1, takeD, List.length_map, j79, b79, q79, qq, ww, List.replicate, Nat.reduceBEq, Nat.reduceAdd, Nat.reduceMul, Nat.reduceDiv, Nat.reduceEqDiff, Nat.reduceLeDiff, Nat.reduceLT, Int.reduceEq, Int.reduceNe, Int.reduceLT, Int.reduceLE, Int.reduceAdd, Int.reduceSub, Int.reduceMul, Int.reduceNeg, Int.reduceToNat, reduceCtorEq, reduceIte, if_true, if_false]
theorem e750 (N d : Nat) (hN : 0 < N) : TT N (d + 1) 75 [.one (.row []), .one (.row [])] = some (bV true, []) := by
  have := MA.e75 N d [] [] (by simpa using hN) (by simp)
  exact this
theorem e80d (N d : Nat) (hN : 0 < N) (y : Dm) : TT N (d + 2) 80 [.agg (eD y), .agg (eD y)] = some (bV true, []) := by
  have h1 := fun d => e750 N d hN
  have h2 : ∀ z : Int, decide (z = z) = true := fun z => by simp
  rw [t80, F_ev rfl]
  simp only [h1, h2, j80, b80, q80, qq, ww, List.replicate, Nat.reduceBEq, Nat.reduceAdd, Nat.reduceMul, Nat.reduceDiv, Nat.reduceEqDiff, Nat.reduceLeDiff, Nat.reduceLT, Int.reduceEq, Int.reduceNe, Int.reduceLT, Int.reduceLE, Int.reduceAdd, Int.reduceSub, Int.reduceMul, Int.reduceNeg, Int.reduceToNat, reduceCtorEq, reduceIte, if_true, if_false]
theorem e39d (N d : Nat) (l : List Dm) (hN : l.length < N) (hl : l.length < 1000000) : TT N (d + 3) 39 [.one (rD l), .one (rD l)] = some (bV true, []) := by
  have hm := fun d y => e80d N d (by omega) y
  have h0 : decide ((l.length : Int) = (l.length : Int)) = true := by simp
  rw [t39, F_ev rfl]
  simp only [h0, List.length_map, j39, b39, q39, qq, ww, List.replicate, Nat.reduceBEq, Nat.reduceAdd, Nat.reduceMul, Nat.reduceDiv, Nat.reduceEqDiff, Nat.reduceLeDiff, Nat.reduceLT, Int.reduceEq, Int.reduceNe, Int.reduceLT, Int.reduceLE, Int.reduceAdd, Int.reduceSub, Int.reduceMul, Int.reduceNeg, Int.reduceToNat, reduceCtorEq, reduceIte, if_true, if_false]
  refine loopK (K := fun o => fin _ (aft _ _ _ o)) (fun i => ⟨[(0, .one (rD l)), (1, .one (rD l)), (5, iV i)], []⟩) (fun _ => some (bV true, [])) l.length ?hr l.length 0 N _ (by omega) (by omega) ?hk
  case hk => simp only [gcK, lowB, Nat.reduceLeDiff, Nat.reduceBEq, List.contains_nil, List.contains_cons, Bool.or_false, Bool.false_or, Bool.false_eq_true, if_false, Bool.true_and, Bool.and_true, pickL, look_hit, look_miss, look_end, slMent, hpMent, S.ment, S.ment.smt, ments, V.ment, List.append_nil, List.nil_append, List.cons_append, List.all_nil, List.all_cons, Option.isSome_some, Bool.and_self, if_true, reduceIte, Nat.reduceEqDiff, not_false_eq_true, reduceCtorEq, Nat.reduceMul, Nat.reduceAdd]; try rfl
  case hr =>
    intro i m hi ih
    (try dsimp only)
    by_cases hlt : i < l.length
    · have h1 : decide ((i : Int) < (l.length : Int)) = true := by simp; omega
      have hg1 : (l.map eD)[i]? = some (eD l[i]) := by simp [hlt]
      have hb : 0 ≤ (i : Int) ∧ (i : Int) < (l.length : Int) := by omega
      simp only [h1, hb.1, hb.2, hg1, hm, wi i (by omega), List.length_map, Int.toNat_natCast, j39, b39, q39, qq, ww, List.replicate, Nat.reduceBEq, Nat.reduceAdd, Nat.reduceMul, Nat.reduceDiv, Nat.reduceEqDiff, Nat.reduceLeDiff, Nat.reduceLT, Int.reduceEq, Int.reduceNe, Int.reduceLT, Int.reduceLE, Int.reduceAdd, Int.reduceSub, Int.reduceMul, Int.reduceNeg, Int.reduceToNat, reduceCtorEq, reduceIte, if_true, if_false]
      exact ih hlt _ (by simp only [gcK, lowB, Nat.reduceLeDiff, Nat.reduceBEq, List.contains_nil, List.contains_cons, Bool.or_false, Bool.false_or, Bool.false_eq_true, if_false, Bool.true_and, Bool.and_true, pickL, look_hit, look_miss, look_end, slMent, hpMent, S.ment, S.ment.smt, ments, V.ment, List.append_nil, List.nil_append, List.cons_append, List.all_nil, List.all_cons, Option.isSome_some, Bool.and_self, if_true, reduceIte, Nat.reduceEqDiff, not_false_eq_true, reduceCtorEq, Nat.reduceMul, Nat.reduceAdd])
    · have h1 : decide ((i : Int) < (l.length : Int)) = false := by simp; omega
      simp only [h1, List.length_map, j39, b39, q39, qq, ww, List.replicate, Nat.reduceBEq, Nat.reduceAdd, Nat.reduceMul, Nat.reduceDiv, Nat.reduceEqDiff, Nat.reduceLeDiff, Nat.reduceLT, Int.reduceEq, Int.reduceNe, Int.reduceLT, Int.reduceLE, Int.reduceAdd, Int.reduceSub, Int.reduceMul, Int.reduceNeg, Int.reduceToNat, reduceCtorEq, reduceIte, if_true, if_false]
end Go.Proofs.YtkfcbpbnoeaheaaGreatDoor.GA
namespace Go.Proofs.YtkfcbpbnoeaheaaGreatDoor.FA
open Go Go.Proofs.YtkfcbpbnoeaheaaGreatDoorR IG
open QA (Ev eE aE rE inB epOK evOK qOK putE n01 gapE lastK)
open AA (It eT aT rT ahOK addA addR leftL wi wm takeT allT take_s hR pre cP risB fitsB left_s ins)
open EC (Cf eC okC)
set_option maxRecDepth 100000
end Go.Proofs.YtkfcbpbnoeaheaaGreatDoor.FA
namespace Go.Proofs.YtkfcbpbnoeaheaaGreatDoor.FA
open Go Go.Proofs.YtkfcbpbnoeaheaaGreatDoorR IG
open QA (Ev eE aE rE inB epOK evOK qOK putE n01 gapE lastK)
open AA (It eT aT rT ahOK addA addR leftL wi wm takeT allT take_s hR pre cP risB fitsB left_s ins)
open EC (Cf eC okC)
set_option maxRecDepth 100000
theorem right_of {c : Cf} {s : Sm} (h1 : epOK s.e = true) (h2 : 1 ≤ s.w ∧ s.w ≤ 1073741824) (h3 : s.w ≤ s.kn) (h4 : s.kn ≤ 1073741824) (h5 : kpOK s.kp s.w c.p = true) (h6 : ahOK s.ah s.w c.w = true) : rightB c s = true := by
  have : inB s.w 1 1073741824 = true := by simp [inB]; omega
  simp [rightB, h1, this, h3, h4, h5, h6]
end Go.Proofs.YtkfcbpbnoeaheaaGreatDoor.FA
namespace Go.Proofs.YtkfcbpbnoeaheaaGreatDoor.GA
open Go Go.Proofs.YtkfcbpbnoeaheaaGreatDoorR IG
open QA (Ev eE aE rE epOK evOK qOK putE n01)
open AA (It eT aT rT wi takeT allT ahOK)
open EC (Cf eC okC)
open FA (Sm eS aS s0 smL flowC rightB heavyB heavy_t itemP itemG fA gA flow_t flow_of right_t q_t kpOK kRow)
open KA (Kd eK aK rK nr okT okN kOK inB gap takeK all3)
set_option maxRecDepth 100000
set_option maxHeartbeats 4000000
theorem item_at' {c : Cf} {s : Sm} {sub : Bool} {q : List Ev} {x : It} (h0 : flowC c s q = 0) (he : epOK s.e = true) (hx : QA.inB x.s 1 1073741823 = true) (hv : QA.inB x.v 0 2147483647 = true) : itemP c s sub q s.e x = (itemG c s sub q false x, 0) := by
  have h1 : ¬ s.e > s.e := by omega
  have h2 : decide (s.e < s.e) = false := by simp
  simp only [itemP, h0, he, hx, hv, if_neg h1, h2, Bool.and_self, if_true]
theorem nx_ep {n top : Int} (hn : okN n = true) (ht : 0 ≤ top ∧ top ≤ 1073741824) (h : nxE n top ≠ 0) : epOK (nxE n top) = true ∧ (nxE n top).tmod 16 = n := by
  have hb := KA.inB_t hn
  have hx := nx_b hn ht
  have h1 : top < nxE n top ∧ nxE n top ≤ 1073741824 := by omega
  have e1 : (nxE n top).tmod 16 = nxE n top % 16 := Int.tmod_eq_emod_of_nonneg (by omega)
  have e2 : top.tmod 16 = top % 16 := Int.tmod_eq_emod_of_nonneg ht.1
  have h2 : nxE n top % 16 = n := by
    unfold nxE at h ⊢
    dsimp only at h ⊢
    rw [e2] at h ⊢
    split
    · rename_i g; rw [if_pos g] at h; omega
    · split <;> omega
  refine ⟨?_, by omega⟩
  simp only [epOK, QA.inB, Bool.and_eq_true, decide_eq_true_eq]
  omega
theorem begun_flow {c : Cf} {s : Sm} {q : List Ev} {e : Int} (h : flowC c s q = 0) (he : epOK e = true) : flowC c ⟨e, 1, 1, [], []⟩ q = 0 := by
  obtain ⟨k1, k2, k3⟩ := flow_t h
  have kc := FA.okC_t k1
  refine flow_of k1 (FA.right_of he ⟨by show (1 : Int) ≤ 1; omega, by show (1 : Int) ≤ 1073741824; omega⟩ (Int.le_refl _) (by show (1 : Int) ≤ 1073741824; omega) ?_ ?_) k3
  · simp [kpOK, QA.inB, kRow]; omega
  · simp [ahOK, AA.inB, AA.risB]; omega
theorem bc_t {c : Cf} {t self : Int} {x : Tp} (h : grC c t self x = 0) (h2 : (bcG self x).2 = 0) : flowC c (bcG self x).1.s (bcG self x).1.q = 0 ∧ epOK (bcG self x).1.s.e = true ∧ (bcG self x).1.r = (bcG self x).1.s.e ∧ (bcG self x).1.ks = x.ks ∧ (bcG self x).1.b = x.b := by
  obtain ⟨k1, k2, k3, k4, k5, k6, k7, k8, k9, k10, k11⟩ := gr_t h
  unfold bcG at h2 ⊢
  by_cases g1 : x.r ≠ 0 ∧ x.t = x.r
  · rw [if_pos g1]
    unfold rgtB at k6
    simp only [Bool.and_eq_true] at k6
    have k12 := k6.2.2.2.2.2.2.2.1
    unfold rtd at k12
    simp only [Bool.or_eq_true, Bool.and_eq_true, decide_eq_true_eq] at k12
    rcases k12 with h3 | h3
    · exact absurd h3 g1.1
    · exact ⟨k11, by rw [h3.2.2.2.2]; exact h3.1, h3.2.2.2.2.symm, rfl, rfl⟩
  · rw [if_neg g1] at h2 ⊢
    by_cases g2 : nxE self x.t = 0
    · rw [if_pos g2] at h2
      exact absurd h2 (by decide)
    · rw [if_neg g2]
      have he := (nx_ep k7 ⟨k9, k10⟩ g2).1
      exact ⟨begun_flow k11 he, he, rfl, rfl, rfl⟩
def acG (c : Cf) (t self : Int) (x : Tp) (v : Int) : (Tp × List Dm) × Int :=
  if (bcG self x).2 = 0 then
    if (bcG self x).1.s.w ≥ 1073741823 then ((x0, []), 11)
    else
      (({ (bcG self x).1 with s := (itemG c (bcG self x).1.s (bcG self x).1.b (bcG self x).1.q false ⟨(bcG self x).1.s.w, v⟩).1, q := (itemG c (bcG self x).1.s (bcG self x).1.b (bcG self x).1.q false ⟨(bcG self x).1.s.w, v⟩).2.1 },
        dsL t (itemG c (bcG self x).1.s (bcG self x).1.b (bcG self x).1.q false ⟨(bcG self x).1.s.w, v⟩).1.e (bcG self x).1.ks (itemG c (bcG self x).1.s (bcG self x).1.b (bcG self x).1.q false ⟨(bcG self x).1.s.w, v⟩).2.2), 0)
  else ((x0, []), (bcG self x).2)
def acP (c : Cf) (t self : Int) (x : Tp) (v : Int) : (Tp × List Dm) × Int :=
  if grC c t self x = 0 then (if QA.inB v 0 2147483647 then acG c t self x v else ((x0, []), 1)) else ((x0, []), grC c t self x)
abbrev aA (r : (Tp × List Dm) × Int) : S := .tup [aX r.1.1, .one (rD r.1.2), iV r.2]
theorem e33 (N d : Nat) (hN : 1000 ≤ N) (c : Cf) (t self : Int) (x : Tp) (v : Int) (hx : smX x) : ans (TT N (d + 17) 33 [.agg (eC c), iV t, iV self, aX x, iV v]) = some (aA (acP c t self x v)) := by
  have h1 := fun d => e35 N d hN c t self x hx
  have h2 := fun d => e31 N d hN c t self x hx
  have h3 := fun d => QA.e51 N d v
  rw [t33, F_ev rfl]
  unfold acP
  by_cases g0 : grC c t self x = 0
  rotate_left
  · rw [if_neg g0]
    have g0' : decide (grC c t self x = 0) = false := decide_eq_false g0
    simp only [h1, g0', j33, b33, q33, qq, ww, List.replicate, Nat.reduceBEq, Nat.reduceAdd, Nat.reduceMul, Nat.reduceDiv, Nat.reduceEqDiff, Nat.reduceLeDiff, Nat.reduceLT, Int.reduceEq, Int.reduceNe, Int.reduceLT, Int.reduceLE, Int.reduceAdd, Int.reduceSub, Int.reduceMul, Int.reduceNeg, Int.reduceToNat, reduceCtorEq, reduceIte, if_true, if_false]
    try rfl
  rw [if_pos g0]
  have hb : bcP c t self x = bcG self x := by unfold bcP; rw [if_pos g0]
  have hT := bc_t g0
  rw [g0] at h1
  rw [hb] at h2
  cases g1 : QA.inB v 0 2147483647 with
  | false =>
    rw [if_neg (by decide)]
    simp only [h1, h3, g1, j33, b33, q33, qq, ww, List.replicate, Nat.reduceBEq, Nat.reduceAdd, Nat.reduceMul, Nat.reduceDiv, Nat.reduceEqDiff, Nat.reduceLeDiff, Nat.reduceLT, Int.reduceEq, Int.reduceNe, Int.reduceLT, Int.reduceLE, Int.reduceAdd, Int.reduceSub, Int.reduceMul, Int.reduceNeg, Int.reduceToNat, reduceCtorEq, reduceIte, if_true, if_false]
    try rfl
  | true =>
  rw [if_pos rfl]
  unfold acG
  by_cases g2 : (bcG self x).2 = 0
  rotate_left
  · rw [if_neg g2]
    have g2' : decide ((bcG self x).2 = 0) = false := decide_eq_false g2
    simp only [h1, h2, h3, g1, g2', j33, b33, q33, qq, ww, List.replicate, Nat.reduceBEq, Nat.reduceAdd, Nat.reduceMul, Nat.reduceDiv, Nat.reduceEqDiff, Nat.reduceLeDiff, Nat.reduceLT, Int.reduceEq, Int.reduceNe, Int.reduceLT, Int.reduceLE, Int.reduceAdd, Int.reduceSub, Int.reduceMul, Int.reduceNeg, Int.reduceToNat, reduceCtorEq, reduceIte, if_true, if_false]
    try rfl
  rw [if_pos g2]
  obtain ⟨f1, f2, f3, f4, f5⟩ := hT g2
  rw [g2] at h2
  generalize (bcG self x).1 = y at *
  by_cases g3 : y.s.w ≥ 1073741823
  · rw [if_pos g3]
    simp only [h1, h2, h3, g1, decide_eq_true g3, j33, b33, q33, qq, ww, List.replicate, Nat.reduceBEq, Nat.reduceAdd, Nat.reduceMul, Nat.reduceDiv, Nat.reduceEqDiff, Nat.reduceLeDiff, Nat.reduceLT, Int.reduceEq, Int.reduceNe, Int.reduceLT, Int.reduceLE, Int.reduceAdd, Int.reduceSub, Int.reduceMul, Int.reduceNeg, Int.reduceToNat, reduceCtorEq, reduceIte, if_true, if_false]
    try rfl
  rw [if_neg g3]
  obtain ⟨k1, k2, k3⟩ := flow_t f1
  have k4 := right_t k2
  have k5 := q_t k3
  have k6 := (FA.right_e k2 f2).2.2
  have hi := fun d => FA.e13 N d hN c y.s y.b y.q y.s.e ⟨y.s.w, v⟩ ⟨by omega, by omega⟩ (by omega)
  rw [item_at' f1 f2 (by simp [QA.inB]; omega) g1] at hi
  have hlen := FA.itemG_len (c := c) (s := y.s) (sub := y.b) (q := y.q) (old := false) (x := ⟨y.s.w, v⟩) ⟨by omega, by omega⟩ (by omega)
  generalize itemG c y.s y.b y.q false ⟨y.s.w, v⟩ = G at *
  obtain ⟨s', q', on⟩ := G
  dsimp only at hlen hi ⊢
  have hH := fun d => e74 N d hN t { y with s := s', q := q' } on (by show y.ks.length < 900; rw [f4]; exact hx.2.1) (by omega)
  dsimp only at hH
  simp only [f3] at hH
  simp only [h1, h2, h3, g1, decide_eq_false g3, f3, hi, fA, hH, j33, b33, q33, qq, ww, List.replicate, Nat.reduceBEq, Nat.reduceAdd, Nat.reduceMul, Nat.reduceDiv, Nat.reduceEqDiff, Nat.reduceLeDiff, Nat.reduceLT, Int.reduceEq, Int.reduceNe, Int.reduceLT, Int.reduceLE, Int.reduceAdd, Int.reduceSub, Int.reduceMul, Int.reduceNeg, Int.reduceToNat, reduceCtorEq, reduceIte, if_true, if_false]
  try rfl
theorem e38 (N d : Nat) (hN : 1000 ≤ N) (c : Cf) (t self : Int) (x : Tp) (v : Int) (hx : smX x) (g0 : grC c t self x = 0) (g1 : QA.inB v 0 2147483647 = true) : ans (TT N (d + 8) 38 [.agg (eC c), iV t, iV self, aX x, iV v]) = some (aA (acG c t self x v)) := by
  obtain ⟨k1, k2, k3, k4, k5, k6, k7, k8, k9, k10, k11⟩ := gr_t g0
  have h2 := fun d => e37 N d self x hx k7 ⟨k9, k10⟩
  have hT := bc_t g0
  rw [t38, F_ev rfl]
  unfold acG
  by_cases g2 : (bcG self x).2 = 0
  rotate_left
  · rw [if_neg g2]
    have g2' : decide ((bcG self x).2 = 0) = false := decide_eq_false g2
    simp only [h2, g2', j38, b38, q38, qq, ww, List.replicate, Nat.reduceBEq, Nat.reduceAdd, Nat.reduceMul, Nat.reduceDiv, Nat.reduceEqDiff, Nat.reduceLeDiff, Nat.reduceLT, Int.reduceEq, Int.reduceNe, Int.reduceLT, Int.reduceLE, Int.reduceAdd, Int.reduceSub, Int.reduceMul, Int.reduceNeg, Int.reduceToNat, reduceCtorEq, reduceIte, if_true, if_false]
    try rfl
  rw [if_pos g2]
  obtain ⟨f1, f2, f3, f4, f5⟩ := hT g2
  rw [g2] at h2
  generalize (bcG self x).1 = y at *
  by_cases g3 : y.s.w ≥ 1073741823
  · rw [if_pos g3]
    simp only [h2, decide_eq_true g3, j38, b38, q38, qq, ww, List.replicate, Nat.reduceBEq, Nat.reduceAdd, Nat.reduceMul, Nat.reduceDiv, Nat.reduceEqDiff, Nat.reduceLeDiff, Nat.reduceLT, Int.reduceEq, Int.reduceNe, Int.reduceLT, Int.reduceLE, Int.reduceAdd, Int.reduceSub, Int.reduceMul, Int.reduceNeg, Int.reduceToNat, reduceCtorEq, reduceIte, if_true, if_false]
    try rfl
  rw [if_neg g3]
  obtain ⟨k1, k2, k3⟩ := flow_t f1
  have k4 := right_t k2
  have k5 := q_t k3
  have k6 := (FA.right_e k2 f2).2.2
  have hi := fun d => FA.e25 N d hN c y.s y.b y.q y.s.e ⟨y.s.w, v⟩ f1 f2 (by simp [QA.inB]; omega) g1
  have z1 : ¬ y.s.e > y.s.e := by omega
  have z2 : decide (y.s.e < y.s.e) = false := by simp
  rw [if_neg z1, z2] at hi
  have hlen := FA.itemG_len (c := c) (s := y.s) (sub := y.b) (q := y.q) (old := false) (x := ⟨y.s.w, v⟩) ⟨by omega, by omega⟩ (by omega)
  generalize itemG c y.s y.b y.q false ⟨y.s.w, v⟩ = G at *
  obtain ⟨s', q', on⟩ := G
  dsimp only at hlen hi ⊢
  have hH := fun d => e79 N d hN t { y with s := s', q := q' } on (by show y.ks.length < 900; rw [f4]; exact hx.2.1) (by omega)
  dsimp only at hH
  simp only [h2, decide_eq_false g3, hi, gA, hH, j38, b38, q38, qq, ww, List.replicate, Nat.reduceBEq, Nat.reduceAdd, Nat.reduceMul, Nat.reduceDiv, Nat.reduceEqDiff, Nat.reduceLeDiff, Nat.reduceLT, Int.reduceEq, Int.reduceNe, Int.reduceLT, Int.reduceLE, Int.reduceAdd, Int.reduceSub, Int.reduceMul, Int.reduceNeg, Int.reduceToNat, reduceCtorEq, reduceIte, if_true, if_false]
  try rfl
end Go.Proofs.YtkfcbpbnoeaheaaGreatDoor.GA
namespace Go.Proofs.YtkfcbpbnoeaheaaGreatDoor.EC
open Go Go.Proofs.YtkfcbpbnoeaheaaGreatDoorR IG EA
set_option maxRecDepth 100000
set_option maxHeartbeats 4000000
end Go.Proofs.YtkfcbpbnoeaheaaGreatDoor.EC
namespace Go.Proofs.YtkfcbpbnoeaheaaGreatDoor.FA
open Go Go.Proofs.YtkfcbpbnoeaheaaGreatDoorR IG
open QA (Ev eE aE rE inB epOK evOK qOK putE n01 gapE lastK)
open AA (It eT aT rT ahOK addA addR leftL wi wm takeT allT take_s hR pre cP risB fitsB left_s ins)
open EC (Cf eC okC)
set_option maxRecDepth 100000
theorem foldK_len' {c : Cf} {sub : Bool} : ∀ {l : List It} {s : Sm} {q : List Ev} {on : List It}, True ∧ True ∧ True ∧ (foldK c sub l s q on).2.2.length = on.length + l.length
  | [], s, q, on => ⟨trivial, trivial, trivial, rfl⟩
  | x :: r, s, q, on => by
    obtain ⟨_, _, _, h⟩ := foldK_len' (c := c) (sub := sub) (l := r) (s := oneS c s x.v) (q := oneQ c s sub q x.v) (on := on ++ [⟨s.w, x.v⟩])
    refine ⟨trivial, trivial, trivial, ?_⟩
    simp only [foldK, h, List.length_append, List.length_cons, List.length_nil]
    omega
theorem moreK_on {c : Cf} {s : Sm} {sub : Bool} {q : List Ev} {x : It} : (itemG c s sub q false x).2.2.length ≤ s.ah.length + 1 := by
  unfold itemG
  split
  · simp
  · split
    · have hl : (leftL (s.w + 1) s.ah).length ≤ s.ah.length := List.length_filter_le _ _
      obtain ⟨h1, h2, h3, h4⟩ := foldK_len' (c := c) (sub := sub) (l := (leftL (s.w + 1) s.ah).take (pre (cP (s.w + 1)) (leftL (s.w + 1) s.ah) 0)) (s := oneS c s x.v) (q := oneQ c s sub q x.v) (on := [⟨s.w, x.v⟩])
      rw [List.length_take] at h4
      simp only [List.length_cons, List.length_nil] at h4
      have h5 : (foldK c sub ((leftL (s.w + 1) s.ah).take (pre (cP (s.w + 1)) (leftL (s.w + 1) s.ah) 0)) (oneS c s x.v) (oneQ c s sub q x.v) [⟨s.w, x.v⟩]).2.2.length ≤ s.ah.length + 1 := by omega
      exact h5
    · simp
end Go.Proofs.YtkfcbpbnoeaheaaGreatDoor.FA
set_option maxRecDepth 100000
namespace Go.Proofs.YtkfcbpbnoeaheaaGreatDoor.L5
open Go Go.Proofs.YtkfcbpbnoeaheaaGreatDoorR
def j5 : C := (.seq (.region [⟨some 5, .box (.t 0), none, [], []⟩,
  ⟨some 8, .box (.t 3), none, [], []⟩,
  ⟨some 10, .mov (.c (.bool false)), none, [], []⟩] false)
 (.seq (.seq (.region [⟨some 27, .load true 16 (.t 8), none, [], []⟩,
  ⟨some 28, .call false 29 [(.t 27)], none, [], []⟩] false)
 (.cond (.t 28) (.seq (.region [⟨some 10, .mov (.c (.bool true)), none, [], []⟩] false)
 .ret) .skip))
 (.seq (.region [⟨some 29, .load true 16 (.t 8), none, [], []⟩,
  ⟨some 30, .call false 30 [(.t 29)], none, [], []⟩,
  ⟨some 11, .alloc [.bool false, .bool false, .int .i64 0, .int .i64 0, .int .i64 0, .int .i64 0, .int .i64 0, .int .i64 0, .row [], .row [], .int .i64 0, .int .i64 0, .int .i64 0, .row [], .row [], .row []], none, [], []⟩,
  ⟨none, .store none 16 (.t 11) (.t 30), none, [], []⟩] false)
 (.seq (.region [⟨some 32, .load true 7 (.t 5), none, [], []⟩,
  ⟨some 33, .mov (.t 1), none, [], []⟩,
  ⟨some 34, .mov (.t 2), none, [], []⟩,
  ⟨some 35, .load true 16 (.t 11), none, [], []⟩,
  ⟨some 36, .call false 31 [(.t 32), (.t 33), (.t 34), (.t 35)], none, [], []⟩,
  ⟨some 31, .mov (.t 36), none, [], []⟩,
  ⟨some 37, .ext (.t 31) 0, none, [], []⟩,
  ⟨some 38, .ext (.t 31) 1, none, [], []⟩,
  ⟨some 12, .alloc [.bool false, .bool false, .int .i64 0, .int .i64 0, .int .i64 0, .int .i64 0, .int .i64 0, .int .i64 0, .row [], .row [], .int .i64 0, .int .i64 0, .int .i64 0, .row [], .row [], .row []], none, [], []⟩,
  ⟨none, .store none 16 (.t 12) (.t 37), none, [], []⟩,
  ⟨some 13, .mov (.t 38), none, [], []⟩] false)
 (.seq (.region [⟨some 40, .load true 7 (.t 5), none, [], []⟩,
  ⟨some 41, .mov (.t 1), none, [], []⟩,
  ⟨some 42, .mov (.t 2), none, [], []⟩,
  ⟨some 43, .load true 16 (.t 11), none, [], []⟩,
  ⟨some 44, .call false 32 [(.t 40), (.t 41), (.t 42), (.t 43)], none, [], []⟩,
  ⟨some 39, .mov (.t 44), none, [], []⟩,
  ⟨some 45, .ext (.t 39) 0, none, [], []⟩,
  ⟨some 46, .ext (.t 39) 1, none, [], []⟩,
  ⟨some 14, .alloc [.bool false, .bool false, .int .i64 0, .int .i64 0, .int .i64 0, .int .i64 0, .int .i64 0, .int .i64 0, .row [], .row [], .int .i64 0, .int .i64 0, .int .i64 0, .row [], .row [], .row []], none, [], []⟩,
  ⟨none, .store none 16 (.t 14) (.t 45), none, [], []⟩,
  ⟨some 15, .mov (.t 46), none, [], []⟩] false)
 (.seq (.region [⟨some 48, .load true 7 (.t 5), none, [], []⟩,
  ⟨some 49, .mov (.t 1), none, [], []⟩,
  ⟨some 50, .mov (.t 2), none, [], []⟩,
  ⟨some 51, .load true 16 (.t 11), none, [], []⟩,
  ⟨some 52, .mov (.t 4), none, [], []⟩,
  ⟨some 53, .call false 33 [(.t 48), (.t 49), (.t 50), (.t 51), (.t 52)], none, [], []⟩,
  ⟨some 47, .mov (.t 53), none, [], []⟩,
  ⟨some 54, .ext (.t 47) 0, none, [], []⟩,
  ⟨some 55, .ext (.t 47) 1, none, [], []⟩,
  ⟨some 56, .ext (.t 47) 2, none, [], []⟩,
  ⟨some 16, .alloc [.bool false, .bool false, .int .i64 0, .int .i64 0, .int .i64 0, .int .i64 0, .int .i64 0, .int .i64 0, .row [], .row [], .int .i64 0, .int .i64 0, .int .i64 0, .row [], .row [], .row []], none, [], []⟩,
  ⟨none, .store none 16 (.t 16) (.t 54), none, [], []⟩,
  ⟨some 17, .mov (.t 55), none, [], []⟩,
  ⟨some 18, .mov (.t 56), none, [], []⟩] false)
 (.seq (.region [⟨some 57, .build [.bool false, .bool false, .int .i64 0, .int .i64 0, .int .i64 0, .int .i64 0, .int .i64 0, .int .i64 0, .row [], .row [], .int .i64 0, .int .i64 0, .int .i64 0, .row [], .row [], .row []] [], none, [], []⟩,
  ⟨some 19, .alloc [.bool false, .bool false, .int .i64 0, .int .i64 0, .int .i64 0, .int .i64 0, .int .i64 0, .int .i64 0, .row [], .row [], .int .i64 0, .int .i64 0, .int .i64 0, .row [], .row [], .row []], none, [], []⟩,
  ⟨none, .store none 16 (.t 19) (.t 57), none, [], []⟩] false)
 (.seq (.seq (.region [⟨some 58, .load true 16 (.t 11), none, [], []⟩,
  ⟨some 59, .load true 16 (.t 8), none, [], []⟩,
  ⟨some 60, .call false 34 [(.t 58), (.t 59)], none, [], []⟩,
  ⟨some 61, .un .not (.t 60), none, [], []⟩] false)
 (.cond (.t 61) (.seq (.region [⟨some 10, .mov (.c (.bool false)), none, [], []⟩] false)
 .ret) .skip))
 (.seq (.seq (.region [⟨some 62, .load true 7 (.t 5), none, [], []⟩,
  ⟨some 63, .mov (.t 1), none, [], []⟩,
  ⟨some 64, .mov (.t 2), none, [], []⟩,
  ⟨some 65, .load true 16 (.t 8), none, [], []⟩,
  ⟨some 66, .call false 35 [(.t 62), (.t 63), (.t 64), (.t 65)], none, [], []⟩,
  ⟨some 20, .mov (.t 66), none, [], []⟩] false)
 (.seq (.region [⟨some 67, .mov (.t 20), none, [], []⟩,
  ⟨some 68, .bin .neq (.t 67) (.c (.int .i64 0)), none, [], []⟩] false)
 (.cond (.t 68) (.seq (.region [⟨some 69, .mov (.t 13), none, [], []⟩,
  ⟨some 70, .mov (.t 20), none, [], []⟩,
  ⟨some 71, .bin .eql (.t 69) (.t 70), none, [], []⟩,
  ⟨some 72, .mov (.t 71), none, [], []⟩,
  ⟨some 73, .mov (.t 15), some (72, true), [], []⟩,
  ⟨some 74, .mov (.t 20), some (72, true), [], []⟩,
  ⟨some 75, .bin .eql (.t 73) (.t 74), some (72, true), [], []⟩,
  ⟨some 76, .pick (.t 72) (.t 75) (.c (.bool false)), none, [], []⟩,
  ⟨some 77, .mov (.t 76), none, [], []⟩,
  ⟨some 78, .mov (.t 18), some (77, true), [], []⟩,
  ⟨some 79, .mov (.t 20), some (77, true), [], []⟩,
  ⟨some 80, .bin .eql (.t 78) (.t 79), some (77, true), [], []⟩,
  ⟨some 81, .pick (.t 77) (.t 80) (.c (.bool false)), none, [], []⟩,
  ⟨some 82, .mov (.t 81), none, [], []⟩,
  ⟨some 83, .mov (.t 17), some (82, true), [], []⟩,
  ⟨some 84, .len (.t 83), some (82, true), [], []⟩,
  ⟨some 85, .bin .eql (.t 84) (.c (.int .i64 0)), some (82, true), [], []⟩,
  ⟨some 86, .pick (.t 82) (.t 85) (.c (.bool false)), none, [], []⟩,
  ⟨some 87, .mov (.t 86), none, [], []⟩,
  ⟨some 88, .load true 16 (.t 12), some (87, true), [], []⟩,
  ⟨some 89, .load true 16 (.t 19), some (87, true), [], []⟩,
  ⟨some 90, .call false 34 [(.t 88), (.t 89)], some (87, true), [], []⟩,
  ⟨some 91, .pick (.t 87) (.t 90) (.c (.bool false)), none, [], []⟩,
  ⟨some 92, .mov (.t 91), none, [], []⟩,
  ⟨some 93, .load true 16 (.t 14), some (92, true), [], []⟩,
  ⟨some 94, .load true 16 (.t 19), some (92, true), [], []⟩,
  ⟨some 95, .call false 34 [(.t 93), (.t 94)], some (92, true), [], []⟩,
  ⟨some 96, .pick (.t 92) (.t 95) (.c (.bool false)), none, [], []⟩,
  ⟨some 97, .mov (.t 96), none, [], []⟩,
  ⟨some 98, .load true 16 (.t 16), some (97, true), [], []⟩,
  ⟨some 99, .load true 16 (.t 19), some (97, true), [], []⟩,
  ⟨some 100, .call false 34 [(.t 98), (.t 99)], some (97, true), [], []⟩,
  ⟨some 101, .pick (.t 97) (.t 100) (.c (.bool false)), none, [], []⟩,
  ⟨some 102, .mov (.t 101), none, [], []⟩,
  ⟨some 103, .call false 36 [], some (102, true), [], []⟩,
  ⟨some 104, .pick (.t 102) (.t 103) (.c (.bool false)), none, [], []⟩,
  ⟨some 10, .mov (.t 104), none, [], []⟩] false)
 .ret) .skip)))
 (.seq (.region [⟨some 105, .load true 16 (.t 8), none, [], []⟩,
  ⟨some 106, .call false 30 [(.t 105)], none, [], []⟩,
  ⟨some 21, .alloc [.bool false, .bool false, .int .i64 0, .int .i64 0, .int .i64 0, .int .i64 0, .int .i64 0, .int .i64 0, .row [], .row [], .int .i64 0, .int .i64 0, .int .i64 0, .row [], .row [], .row []], none, [], []⟩,
  ⟨none, .store none 16 (.t 21) (.t 106), none, [], []⟩] false)
 (.seq (.region [⟨some 107, .fad 3 (.t 21), none, [], []⟩,
  ⟨none, .store none 1 (.t 107) (.c (.int .i64 0)), none, [], []⟩] false)
 (.seq (.region [⟨some 109, .mov (.t 2), none, [], []⟩,
  ⟨some 110, .load true 16 (.t 8), none, [], []⟩,
  ⟨some 111, .call false 37 [(.t 109), (.t 110)], none, [], []⟩,
  ⟨some 108, .mov (.t 111), none, [], []⟩,
  ⟨some 112, .ext (.t 108) 0, none, [], []⟩,
  ⟨some 113, .ext (.t 108) 1, none, [], []⟩,
  ⟨some 22, .alloc [.bool false, .bool false, .int .i64 0, .int .i64 0, .int .i64 0, .int .i64 0, .int .i64 0, .int .i64 0, .row [], .row [], .int .i64 0, .int .i64 0, .int .i64 0, .row [], .row [], .row []], none, [], []⟩,
  ⟨none, .store none 16 (.t 22) (.t 112), none, [], []⟩,
  ⟨some 23, .mov (.t 113), none, [], []⟩] false)
 (.seq (.seq (.region [⟨some 114, .mov (.t 13), none, [], []⟩,
  ⟨some 115, .mov (.t 23), none, [], []⟩,
  ⟨some 116, .bin .neq (.t 114) (.t 115), none, [], []⟩,
  ⟨some 117, .mov (.t 116), none, [], []⟩,
  ⟨some 118, .load true 16 (.t 12), some (117, false), [], []⟩,
  ⟨some 119, .load true 16 (.t 22), some (117, false), [], []⟩,
  ⟨some 120, .call false 34 [(.t 118), (.t 119)], some (117, false), [], []⟩,
  ⟨some 121, .un .not (.t 120), some (117, false), [], []⟩,
  ⟨some 122, .pick (.t 117) (.c (.bool true)) (.t 121), none, [], []⟩,
  ⟨some 123, .mov (.t 122), none, [], []⟩,
  ⟨some 124, .mov (.t 15), some (123, false), [], []⟩,
  ⟨some 125, .bin .neq (.t 124) (.c (.int .i64 0)), some (123, false), [], []⟩,
  ⟨some 126, .pick (.t 123) (.c (.bool true)) (.t 125), none, [], []⟩,
  ⟨some 127, .mov (.t 126), none, [], []⟩,
  ⟨some 128, .load true 16 (.t 14), some (127, false), [], []⟩,
  ⟨some 129, .load true 16 (.t 21), some (127, false), [], []⟩,
  ⟨some 130, .call false 34 [(.t 128), (.t 129)], some (127, false), [], []⟩,
  ⟨some 131, .un .not (.t 130), some (127, false), [], []⟩,
  ⟨some 132, .pick (.t 127) (.c (.bool true)) (.t 131), none, [], []⟩] false)
 (.cond (.t 132) (.seq (.region [⟨some 10, .mov (.c (.bool false)), none, [], []⟩] false)
 .ret) .skip))
 (.seq (.seq (.region [⟨some 133, .mov (.t 4), none, [], []⟩,
  ⟨some 134, .call false 24 [(.t 133)], none, [], []⟩,
  ⟨some 135, .un .not (.t 134), none, [], []⟩] false)
 (.cond (.t 135) (.seq (.region [⟨some 136, .mov (.t 18), none, [], []⟩,
  ⟨some 137, .bin .eql (.t 136) (.c (.int .i64 1)), none, [], []⟩,
  ⟨some 138, .mov (.t 137), none, [], []⟩,
  ⟨some 139, .mov (.t 17), some (138, true), [], []⟩,
  ⟨some 140, .len (.t 139), some (138, true), [], []⟩,
  ⟨some 141, .bin .eql (.t 140) (.c (.int .i64 0)), some (138, true), [], []⟩,
  ⟨some 142, .pick (.t 138) (.t 141) (.c (.bool false)), none, [], []⟩,
  ⟨some 143, .mov (.t 142), none, [], []⟩,
  ⟨some 144, .load true 16 (.t 16), some (143, true), [], []⟩,
  ⟨some 145, .load true 16 (.t 19), some (143, true), [], []⟩,
  ⟨some 146, .call false 34 [(.t 144), (.t 145)], some (143, true), [], []⟩,
  ⟨some 147, .pick (.t 143) (.t 146) (.c (.bool false)), none, [], []⟩,
  ⟨some 148, .mov (.t 147), none, [], []⟩,
  ⟨some 149, .call false 36 [], some (148, true), [], []⟩,
  ⟨some 150, .pick (.t 148) (.t 149) (.c (.bool false)), none, [], []⟩,
  ⟨some 10, .mov (.t 150), none, [], []⟩] false)
 .ret) .skip))
 (.seq (.region [⟨some 152, .load true 7 (.t 5), none, [], []⟩,
  ⟨some 153, .mov (.t 1), none, [], []⟩,
  ⟨some 154, .mov (.t 2), none, [], []⟩,
  ⟨some 155, .load true 16 (.t 8), none, [], []⟩,
  ⟨some 156, .mov (.t 4), none, [], []⟩,
  ⟨some 157, .call false 38 [(.t 152), (.t 153), (.t 154), (.t 155), (.t 156)], none, [], []⟩,
  ⟨some 151, .mov (.t 157), none, [], []⟩,
  ⟨some 158, .ext (.t 151) 0, none, [], []⟩,
  ⟨some 159, .ext (.t 151) 1, none, [], []⟩,
  ⟨some 160, .ext (.t 151) 2, none, [], []⟩,
  ⟨some 24, .alloc [.bool false, .bool false, .int .i64 0, .int .i64 0, .int .i64 0, .int .i64 0, .int .i64 0, .int .i64 0, .row [], .row [], .int .i64 0, .int .i64 0, .int .i64 0, .row [], .row [], .row []], none, [], []⟩,
  ⟨none, .store none 16 (.t 24) (.t 158), none, [], []⟩,
  ⟨some 25, .mov (.t 159), none, [], []⟩,
  ⟨some 26, .mov (.t 160), none, [], []⟩] false)
 (.seq (.region [⟨some 161, .mov (.t 18), none, [], []⟩,
  ⟨some 162, .mov (.t 26), none, [], []⟩,
  ⟨some 163, .bin .eql (.t 161) (.t 162), none, [], []⟩,
  ⟨some 164, .mov (.t 163), none, [], []⟩,
  ⟨some 165, .load true 16 (.t 16), some (164, true), [], []⟩,
  ⟨some 166, .load true 16 (.t 24), some (164, true), [], []⟩,
  ⟨some 167, .call false 34 [(.t 165), (.t 166)], some (164, true), [], []⟩,
  ⟨some 168, .pick (.t 164) (.t 167) (.c (.bool false)), none, [], []⟩,
  ⟨some 169, .mov (.t 168), none, [], []⟩,
  ⟨some 170, .mov (.t 17), some (169, true), [], []⟩,
  ⟨some 171, .mov (.t 25), some (169, true), [], []⟩,
  ⟨some 172, .call false 39 [(.t 170), (.t 171)], some (169, true), [], []⟩,
  ⟨some 173, .pick (.t 169) (.t 172) (.c (.bool false)), none, [], []⟩,
  ⟨some 174, .mov (.t 173), none, [], []⟩,
  ⟨some 175, .call false 36 [], some (174, true), [], []⟩,
  ⟨some 176, .pick (.t 174) (.t 175) (.c (.bool false)), none, [], []⟩,
  ⟨some 10, .mov (.t 176), none, [], []⟩] false)
 .ret))))))))))))))))
def i5 : F := ⟨5, 177, j5, [.t 10]⟩
theorem b5 : i5.body = j5 := rfl
theorem q5 : i5.res = [.t 10] := rfl
theorem c5 : chkF Tryz.prog Tryz.f5 i5 = true := by kernel_rfl
theorem s5 {m : Model} {E : Nat → Model} (hE : ∀ f, Sound Tryz.prog f (E f)) (hm : ∀ args r, m args = some r → ∃ N, i5.ev E N args = some r) : Sound Tryz.prog 5 m := sound_of i5 Tryz.func5 rfl c5 hE hm
def xt : List (Nat × Model) := []
def tb : List (Nat × F) := [(5, i5)]
theorem xt_ok : ∀ p ∈ xt, Sound Tryz.prog p.1 p.2 := all_nil
theorem tb_ok (N : Nat) : ∀ p ∈ tb, ∀ E : Nat → Model, (∀ f, Sound Tryz.prog f (E f)) → Sound Tryz.prog p.1 (p.2.ev E N) := all_cons (fun E hE => s5 hE fun _ _ h => ⟨N, h⟩) (all_nil)
abbrev TT (N : Nat) : Nat → Nat → Model := T1 (IG.TT N) 5 i5 N
theorem TT_ok (N d f : Nat) : Sound Tryz.prog f (TT N d f) := T1_ok (IG.TT_ok N) (fun E hE => s5 hE fun _ _ h => ⟨N, h⟩) d f
theorem t5 (N d : Nat) : TT N (d + 1) 5 = i5.ev (IG.TT N d) N := rfl
end Go.Proofs.YtkfcbpbnoeaheaaGreatDoor.L5
namespace Go.Proofs.YtkfcbpbnoeaheaaGreatDoor.GA
open Go Go.Proofs.YtkfcbpbnoeaheaaGreatDoorR IG
open QA (Ev eE aE rE epOK evOK qOK putE n01)
open AA (It eT aT rT wi takeT allT ahOK)
open EC (Cf eC okC)
open FA (Sm eS aS s0 smL flowC rightB heavyB heavy_t itemP itemG fA gA flow_t flow_of right_t q_t kpOK kRow)
open KA (Kd eK aK rK nr okT okN kOK inB gap takeK all3)
open L5 (j5 i5 b5 q5)
set_option maxRecDepth 100000
set_option maxHeartbeats 8000000
theorem w20 : TT 1000 19 36 [] = some (bV true, []) := by kernel_rfl
def hvX (x : Tp) : Bool := decide ((x.pa.length : Int) > 20) || (decide ((x.ks.length : Int) > 20) || heavyB x.s x.q)
theorem e29 (N d : Nat) (x : Tp) : TT N (d + 2) 29 [aX x] = some (bV (hvX x), []) := by
  have h1 := fun d => FA.e9 N d x.s x.q
  rw [t29, F_ev rfl]
  unfold hvX
  by_cases g1 : (x.pa.length : Int) > 20
  · simp only [decide_eq_true g1, h1, Bool.true_or, List.length_map, j29, b29, q29, qq, ww, List.replicate, Nat.reduceBEq, Nat.reduceAdd, Nat.reduceMul, Nat.reduceDiv, Nat.reduceEqDiff, Nat.reduceLeDiff, Nat.reduceLT, Int.reduceEq, Int.reduceNe, Int.reduceLT, Int.reduceLE, Int.reduceAdd, Int.reduceSub, Int.reduceMul, Int.reduceNeg, Int.reduceToNat, reduceCtorEq, reduceIte, if_true, if_false]
  by_cases g2 : (x.ks.length : Int) > 20
  · simp only [decide_eq_false g1, decide_eq_true g2, h1, Bool.true_or, Bool.false_or, List.length_map, j29, b29, q29, qq, ww, List.replicate, Nat.reduceBEq, Nat.reduceAdd, Nat.reduceMul, Nat.reduceDiv, Nat.reduceEqDiff, Nat.reduceLeDiff, Nat.reduceLT, Int.reduceEq, Int.reduceNe, Int.reduceLT, Int.reduceLE, Int.reduceAdd, Int.reduceSub, Int.reduceMul, Int.reduceNeg, Int.reduceToNat, reduceCtorEq, reduceIte, if_true, if_false]
  · simp only [decide_eq_false g1, decide_eq_false g2, h1, Bool.false_or, List.length_map, j29, b29, q29, qq, ww, List.replicate, Nat.reduceBEq, Nat.reduceAdd, Nat.reduceMul, Nat.reduceDiv, Nat.reduceEqDiff, Nat.reduceLeDiff, Nat.reduceLT, Int.reduceEq, Int.reduceNe, Int.reduceLT, Int.reduceLE, Int.reduceAdd, Int.reduceSub, Int.reduceMul, Int.reduceNeg, Int.reduceToNat, reduceCtorEq, reduceIte, if_true, if_false]
theorem hv_t {x : Tp} (h : hvX x = false) : smX x ∧ x.pa.length ≤ 20 ∧ x.ks.length ≤ 20 ∧ x.s.kp.length ≤ 30 ∧ x.s.ah.length ≤ 30 ∧ x.q.length ≤ 50 := by
  unfold hvX at h
  simp only [Bool.or_eq_false_iff, decide_eq_false_iff_not] at h
  have := heavy_t h.2.2
  exact ⟨⟨by omega, by omega, ⟨by omega, by omega⟩, by omega⟩, by omega, by omega, by omega, by omega, by omega⟩
abbrev zX : S := .agg [.bool false, .bool false, .int .i64 0, .int .i64 0, .int .i64 0, .int .i64 0, .int .i64 0, .int .i64 0, .row [], .row [], .int .i64 0, .int .i64 0, .int .i64 0, .row [], .row [], .row []]
theorem zzX (d : Nat) : TT 1000 (d + 3) 34 [zX, zX] = some (bV true, []) := e34r 1000 d (by omega) x0 (by simp [smX, smL])
theorem bc_sm {self : Int} {x : Tp} (h : smX x) : smX (bcG self x).1 := by
  unfold bcG
  split
  · exact h
  · split
    · simp [smX, smL]
    · exact ⟨by simp, h.2.1, ⟨by simp, by simp⟩, h.2.2.2⟩
theorem ac_sm {c : Cf} {t self : Int} {x : Tp} {v : Int} (h : smX x) (g0 : grC c t self x = 0) : smX (acG c t self x v).1.1 ∧ (acG c t self x v).1.2.length < 900 := by
  have hb := bc_sm (self := self) h
  have hT := bc_t g0
  obtain ⟨k1, k2, k3, k4, k5, k6, k7, k8, k9, k10, k11⟩ := gr_t g0
  unfold acG
  split
  · rename_i g2
    obtain ⟨f1, f2, f3, f4, f5⟩ := hT g2
    generalize (bcG self x).1 = y at *
    split
    · simp [smX, smL]
    · obtain ⟨l1, l2, l3⟩ := flow_t f1
      have l4 := right_t l2
      have l5 := q_t l3
      have hlen := FA.itemG_len (c := c) (s := y.s) (sub := y.b) (q := y.q) (old := false) (x := ⟨y.s.w, v⟩) ⟨by omega, by omega⟩ (by omega)
      have hon := FA.moreK_on (c := c) (s := y.s) (sub := y.b) (q := y.q) (x := ⟨y.s.w, v⟩)
      have hk : x.ks.length ≤ 4 := by
        unfold rgtB at k6
        simp only [Bool.and_eq_true] at k6
        have h1 := k6.2.2.2.2.2.2.2.2.2.2.1
        simp only [kOK, Bool.and_eq_true, decide_eq_true_eq] at h1
        have := FA.okC_t k1
        omega
      refine ⟨⟨hb.1, hb.2.1, hlen.1, hlen.2.1⟩, ?_⟩
      show (dsL _ _ _ _).length < 900
      rw [dsL_len]
      have := Nat.mul_le_mul (show (itemG c y.s y.b y.q false ⟨y.s.w, v⟩).2.2.length ≤ 16 by omega) (show y.ks.length ≤ 4 by rw [f4]; exact hk)
      omega
  · simp [smX, smL]
theorem e5 (c : Cf) (t self : Int) (x : Tp) (v : Int) : L5.TT 1000 20 5 [.agg (eC c), iV t, iV self, aX x, iV v] = some (bV true, []) := by
  rw [L5.t5, F_ev rfl]
  have hH := fun d => e29 1000 d x
  cases hv : hvX x with
  | true => rw [hv] at hH; simp only [hH, j5, b5, q5, qq, ww, List.replicate, Nat.reduceBEq, Nat.reduceAdd, Nat.reduceMul, Nat.reduceDiv, Nat.reduceEqDiff, Nat.reduceLeDiff, Nat.reduceLT, Int.reduceEq, Int.reduceNe, Int.reduceLT, Int.reduceLE, Int.reduceAdd, Int.reduceSub, Int.reduceMul, Int.reduceNeg, Int.reduceToNat, reduceCtorEq, reduceIte, if_true, if_false]
  | false =>
  rw [hv] at hH
  obtain ⟨hx, hh⟩ := hv_t hv
  have hw := w20
  have tT := fun d => e30 1000 d x hx
  have hC := fun d => e35 1000 d (by omega) c t self x hx
  have hsx := fun d => e34r 1000 d (by omega) x hx
  have hz := zzX
  by_cases g0 : grC c t self x = 0
  rotate_left
  · have g0' : decide (grC c t self x = 0) = false := decide_eq_false g0
    have g1' : decide (grC c t self x = grC c t self x) = true := by simp
    have hB : ∀ d, TT 1000 (d + 14) 31 [.agg (eC c), iV t, iV self, aX x] = some (.tup [zX, iV (grC c t self x)], []) := fun d => by
      rw [e31 1000 d (by omega) c t self x hx]; unfold bcP; rw [if_neg g0]; rfl
    have hS : ∀ d, TT 1000 (d + 14) 32 [.agg (eC c), iV t, iV self, aX x] = some (.tup [zX, iV (grC c t self x)], []) := fun d => by
      rw [e32 1000 d (by omega) c t self x hx, if_neg g0]; rfl
    have hA : ∀ d, ans (TT 1000 (d + 17) 33 [.agg (eC c), iV t, iV self, aX x, iV v]) = some (.tup [zX, .one (.row []), iV (grC c t self x)]) := fun d => by
      rw [e33 1000 d (by omega) c t self x v hx]; unfold acP; rw [if_neg g0]; rfl
    have hl : decide ((0 : Int) = 0) = true := rfl
    simp only [hH, tT, hB, hS, hA, hC, hsx, hz, hw, g0', g1', hl, List.length_nil, j5, b5, q5, qq, ww, List.replicate, Nat.reduceBEq, Nat.reduceAdd, Nat.reduceMul, Nat.reduceDiv, Nat.reduceEqDiff, Nat.reduceLeDiff, Nat.reduceLT, Int.reduceEq, Int.reduceNe, Int.reduceLT, Int.reduceLE, Int.reduceAdd, Int.reduceSub, Int.reduceMul, Int.reduceNeg, Int.reduceToNat, reduceCtorEq, reduceIte, if_true, if_false]
  obtain ⟨k1, k2, k3, k4, k5, k6, k7, k8, k9, k10, k11⟩ := gr_t g0
  have hB := fun d => e31 1000 d (by omega) c t self x hx
  have hb : bcP c t self x = bcG self x := by unfold bcP; rw [if_pos g0]
  rw [hb] at hB
  have hB2 := fun d => e37 1000 d self x hx k7 ⟨k9, k10⟩
  have hS := fun d => e32 1000 d (by omega) c t self x hx
  rw [if_pos g0, g0] at hS
  rw [g0] at hC
  have hbs := bc_sm (self := self) hx
  have hsb := fun d => e34r 1000 d (by omega) _ hbs
  have hds : smX ⟨x.m, x.b, x.t, 0, x.p, x.a, x.o, x.g, x.pa, x.ks, x.s, x.q⟩ := hx
  have hsd := fun d => e34r 1000 d (by omega) _ hds
  (try dsimp only at hsd)
  have hee : decide ((bcG self x).2 = (bcG self x).2) = true := by simp
  have hV := fun d => QA.e24 1000 d v
  have h00 : decide ((0 : Int) = 0) = true := rfl
  cases g1 : QA.inB v 0 2147483647 with
  | false =>
    rw [g1] at hV
    have hA : ∀ d, ans (TT 1000 (d + 17) 33 [.agg (eC c), iV t, iV self, aX x, iV v]) = some (.tup [zX, .one (.row []), iV 1]) := fun d => by
      rw [e33 1000 d (by omega) c t self x v hx]; unfold acP; rw [if_pos g0, g1]; rfl
    generalize bcG self x = B at *
    obtain ⟨y, e⟩ := B
    dsimp only at hB hB2 hsb hee
    simp only [hH, tT, hB, hB2, hS, hA, hC, hsx, hsb, hsd, hz, hw, hV, h00, hee, List.length_nil, j5, b5, q5, qq, ww, List.replicate, Nat.reduceBEq, Nat.reduceAdd, Nat.reduceMul, Nat.reduceDiv, Nat.reduceEqDiff, Nat.reduceLeDiff, Nat.reduceLT, Int.reduceEq, Int.reduceNe, Int.reduceLT, Int.reduceLE, Int.reduceAdd, Int.reduceSub, Int.reduceMul, Int.reduceNeg, Int.reduceToNat, reduceCtorEq, reduceIte, if_true, if_false]
  | true =>
    rw [g1] at hV
    have hA : ∀ d, ans (TT 1000 (d + 17) 33 [.agg (eC c), iV t, iV self, aX x, iV v]) = some (aA (acG c t self x v)) := fun d => by
      rw [e33 1000 d (by omega) c t self x v hx]; unfold acP; rw [if_pos g0, g1]; rfl
    have hA2 := fun d => e38 1000 d (by omega) c t self x v hx g0 g1
    obtain ⟨s1, s2⟩ := ac_sm (v := v) hx g0
    have hsa := fun d => e34r 1000 d (by omega) _ s1
    have hms := fun d => e39d 1000 d _ (show (acG c t self x v).1.2.length < 1000 by omega) (by omega)
    have hff : decide ((acG c t self x v).2 = (acG c t self x v).2) = true := by simp
    generalize acG c t self x v = A at *
    obtain ⟨⟨z, w⟩, f⟩ := A
    generalize bcG self x = B at *
    obtain ⟨y, e⟩ := B
    dsimp only at hB hB2 hsb hee hA hA2 hsa hms hff
    simp only [hH, tT, hB, hB2, hS, hA, hA2, aA, hC, hsx, hsb, hsd, hsa, hms, hff, hw, hV, h00, hee, j5, b5, q5, qq, ww, List.replicate, Nat.reduceBEq, Nat.reduceAdd, Nat.reduceMul, Nat.reduceDiv, Nat.reduceEqDiff, Nat.reduceLeDiff, Nat.reduceLT, Int.reduceEq, Int.reduceNe, Int.reduceLT, Int.reduceLE, Int.reduceAdd, Int.reduceSub, Int.reduceMul, Int.reduceNeg, Int.reduceToNat, reduceCtorEq, reduceIte, if_true, if_false]
end Go.Proofs.YtkfcbpbnoeaheaaGreatDoor.GA
