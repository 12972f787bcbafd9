import Derived.Test.YtgjacdfiilcaaaaMF
set_option linter.unusedSimpArgs false
set_option linter.unusedVariables false
namespace Go.Proofs.Ytgjacdfiilcaaaa.MA
open Go Go.Proofs.YtgjacdfiilcaaaaR Go.Proofs.Ytgjacdfiilcaaaa.IW
set_option maxRecDepth 100000
set_option maxHeartbeats 4000000
theorem e18n (N d : Nat) (k f fi t ti tp e s l v nd ic c h : Int) (m : Mg) : TT (N + 3000) (d + 2) 18 [.agg [.int .i64 k, .int .i64 f, .int .i64 fi, .int .i64 t, .int .i64 ti, .int .i64 tp, .int .i64 e, .int .i64 s, .int .i64 l, .int .i64 v, .int .i64 nd, .int .i64 ic, .int .i64 c, .int .i64 h, .row [], .row []], aM m] = some (bV (decide ((⟨k, f, fi, t, ti, tp, e, s, l, v, nd, ic, c, h, [], []⟩ : Mg) = m)), []) := e18 N d ⟨k, f, fi, t, ti, tp, e, s, l, v, nd, ic, c, h, [], []⟩ m (by simp) (by simp)
theorem e18p (N d : Nat) (k f fi t ti tp e s l v nd ic c h : Int) (pa : List Int) (m : Mg) (ha : pa.length < 1000) : TT (N + 3000) (d + 2) 18 [.agg [.int .i64 k, .int .i64 f, .int .i64 fi, .int .i64 t, .int .i64 ti, .int .i64 tp, .int .i64 e, .int .i64 s, .int .i64 l, .int .i64 v, .int .i64 nd, .int .i64 ic, .int .i64 c, .int .i64 h, rI pa, .row []], aM m] = some (bV (decide ((⟨k, f, fi, t, ti, tp, e, s, l, v, nd, ic, c, h, pa, []⟩ : Mg) = m)), []) := e18 N d ⟨k, f, fi, t, ti, tp, e, s, l, v, nd, ic, c, h, pa, []⟩ m ha (by simp)
theorem e18t (N d : Nat) (k f fi t ti tp e s l v nd ic c h : Int) (pa td : List Int) (m : Mg) (ha : pa.length < 1000) (hb : td.length < 1000) : TT (N + 3000) (d + 2) 18 [.agg [.int .i64 k, .int .i64 f, .int .i64 fi, .int .i64 t, .int .i64 ti, .int .i64 tp, .int .i64 e, .int .i64 s, .int .i64 l, .int .i64 v, .int .i64 nd, .int .i64 ic, .int .i64 c, .int .i64 h, rI pa, rI td], aM m] = some (bV (decide ((⟨k, f, fi, t, ti, tp, e, s, l, v, nd, ic, c, h, pa, td⟩ : Mg) = m)), []) := e18 N d ⟨k, f, fi, t, ti, tp, e, s, l, v, nd, ic, c, h, pa, td⟩ m ha hb
theorem e43x (N d : Nat) (a b : List Int) (h : a.length + b.length < N) (h' : a.length + b.length < 1000000) : TT N (d + 1) 43 [.one (.row (a.map eI ++ b.map eI))] = some (bV (uq (a ++ b)), []) := by
  have e : V.row (a.map eI ++ b.map eI) = rI (a ++ b) := by show _ = V.row ((a ++ b).map eI); rw [List.map_append]
  rw [e]
  exact e43 N d (a ++ b) (by simpa using h) (by simpa using h')
theorem uqF_app : ∀ (a b pre : List Int), uqF pre (a ++ b) = (uqF pre a && uqF (pre ++ a) b)
  | [], b, pre => by simp [uqF]
  | x :: a, b, pre => by
    simp only [List.cons_append, uqF, uqF_app a b (pre ++ [x]), List.append_assoc, List.nil_append, Bool.and_assoc]
theorem uqF_mono : ∀ (b pre pre' : List Int), (∀ x, x ∈ pre' → x ∈ pre) → uqF pre b = true → uqF pre' b = true
  | [], _, _, _, _ => rfl
  | y :: b, pre, pre', h, hu => by
    simp only [uqF, Bool.and_eq_true, Bool.not_eq_true', List.contains_eq_mem, decide_eq_false_iff_not] at hu ⊢
    refine ⟨fun hy => hu.1 (h y hy), uqF_mono b (pre ++ [y]) (pre' ++ [y]) (fun x hx => ?_) hu.2⟩
    rcases List.mem_append.1 hx with h' | h'
    · exact List.mem_append_left _ (h x h')
    · exact List.mem_append_right _ h'
theorem uq_app (a b : List Int) (h : uq (a ++ b) = true) : uq a = true ∧ uq b = true := by
  unfold uq at *
  rw [uqF_app, Bool.and_eq_true] at h
  exact ⟨h.1, uqF_mono b _ _ (fun x hx => by cases hx) h.2⟩
theorem dz {x : Int} : decide ((0 : Int) = x) = decide (x = 0) := by congr 1; exact propext eq_comm
theorem dn1 {l : List Int} : decide (l = []) = l.isEmpty := by cases l <;> simp
theorem dn2 {l : List Int} : decide ([] = l) = l.isEmpty := by cases l <;> simp

theorem e19_1 (N d : Nat) (m : Mg) (ha : m.pa.length < 1000) (hb : m.td.length < 1000) (hk : m.k = 1) : TT (N + 3000) (d + 6) 19 [aM m] = some (bV (msgOK m), []) := by
  have k1 : decide (m.k = 1) = true := by rw [hk]; decide
  have k2 : decide (m.k = 2) = false := by rw [hk]; decide
  have k3 : decide (m.k = 3) = false := by rw [hk]; decide
  have k4 : decide (m.k = 4) = false := by rw [hk]; decide
  have k5 : decide (m.k = 5) = false := by rw [hk]; decide
  have k6 : decide (m.k = 6) = false := by rw [hk]; decide
  have k7 : decide (m.k = 7) = false := by rw [hk]; decide
  have k8 : decide (m.k = 8) = false := by rw [hk]; decide
  have k9 : decide (m.k = 9) = false := by rw [hk]; decide
  have k10 : decide (m.k = 10) = false := by rw [hk]; decide
  have k11 : decide (m.k = 11) = false := by rw [hk]; decide
  have k12 : decide (m.k = 12) = false := by rw [hk]; decide
  have k13 : decide (m.k = 13) = false := by rw [hk]; decide
  have kr : inB m.k 1 13 = true := by rw [hk]; decide
  rw [t19, F_ev rfl]
  simp only [k1, k2, k3, k4, k5, k6, k7, k8, k9, k10, k11, k12, k13, kr, e38, e39, e40, e41, e44, e18n, List.length_map, j19, b19, q19, qq, ww, List.append_nil, List.all_nil, List.all_cons, true_or, or_true, false_or, or_false, List.contains_nil, List.isEmpty_nil, List.take_length, List.getElem?_cons_zero, List.getElem?_cons_succ, List.set_cons_zero, List.set_cons_succ, List.replicate, Option.isNone_none, List.map_append, List.length_append, List.all_nil, List.contains_cons, Nat.reduceBEq, List.map_cons, List.map_nil, List.cons_append, List.nil_append, Option.getD_some, Option.getD_none, Option.map_some, Option.map_none, Option.bind_some, Nat.reduceAdd, Nat.reduceMul, Nat.reduceDiv, Nat.reduceEqDiff, Nat.reduceLeDiff, Nat.reduceLT, Int.reduceEq, Int.reduceNe, Int.reduceLT, Int.reduceLE, Int.reduceAdd, Int.reduceSub, Int.reduceMul, Int.reduceNeg, Int.reduceToNat, Int.reducePow, Nat.reducePow, not_false_eq_true, not_true_eq_false, reduceCtorEq, reduceIte, if_true, if_false, Bool.true_eq_false, Bool.false_eq_true, List.length_cons, List.length_nil, and_self, true_and, and_true, List.drop_zero, List.take_succ_cons, List.take_zero, List.drop_succ_cons]
  repeat' (refine fin_cases (fun h1 => ?_) (fun h1 => ?_) <;> simp only [h1, k1, k2, k3, k4, k5, k6, k7, k8, k9, k10, k11, k12, k13, kr, e38, e39, e40, e41, e44, e18n, List.length_map, j19, b19, q19, qq, ww, List.append_nil, List.all_nil, List.all_cons, true_or, or_true, false_or, or_false, List.contains_nil, List.isEmpty_nil, List.take_length, List.getElem?_cons_zero, List.getElem?_cons_succ, List.set_cons_zero, List.set_cons_succ, List.replicate, Option.isNone_none, List.map_append, List.length_append, List.all_nil, List.contains_cons, Nat.reduceBEq, List.map_cons, List.map_nil, List.cons_append, List.nil_append, Option.getD_some, Option.getD_none, Option.map_some, Option.map_none, Option.bind_some, Nat.reduceAdd, Nat.reduceMul, Nat.reduceDiv, Nat.reduceEqDiff, Nat.reduceLeDiff, Nat.reduceLT, Int.reduceEq, Int.reduceNe, Int.reduceLT, Int.reduceLE, Int.reduceAdd, Int.reduceSub, Int.reduceMul, Int.reduceNeg, Int.reduceToNat, Int.reducePow, Nat.reducePow, not_false_eq_true, not_true_eq_false, reduceCtorEq, reduceIte, if_true, if_false, Bool.true_eq_false, Bool.false_eq_true, List.length_cons, List.length_nil, and_self, true_and, and_true, List.drop_zero, List.take_succ_cons, List.take_zero, List.drop_succ_cons])
  all_goals (try simp only [eq_m])
  all_goals (simp_all [msgOK, okM, knownB, endsB, bareB, restM, whoseB, wayB, plM, dz, dn1, dn2])
  all_goals (try (first | (intros; exact uq_app _ _ (by assumption)) | omega | grind))
theorem e19_2 (N d : Nat) (m : Mg) (ha : m.pa.length < 1000) (hb : m.td.length < 1000) (hk : m.k = 2) : TT (N + 3000) (d + 6) 19 [aM m] = some (bV (msgOK m), []) := by
  have k1 : decide (m.k = 1) = false := by rw [hk]; decide
  have k2 : decide (m.k = 2) = true := by rw [hk]; decide
  have k3 : decide (m.k = 3) = false := by rw [hk]; decide
  have k4 : decide (m.k = 4) = false := by rw [hk]; decide
  have k5 : decide (m.k = 5) = false := by rw [hk]; decide
  have k6 : decide (m.k = 6) = false := by rw [hk]; decide
  have k7 : decide (m.k = 7) = false := by rw [hk]; decide
  have k8 : decide (m.k = 8) = false := by rw [hk]; decide
  have k9 : decide (m.k = 9) = false := by rw [hk]; decide
  have k10 : decide (m.k = 10) = false := by rw [hk]; decide
  have k11 : decide (m.k = 11) = false := by rw [hk]; decide
  have k12 : decide (m.k = 12) = false := by rw [hk]; decide
  have k13 : decide (m.k = 13) = false := by rw [hk]; decide
  have kr : inB m.k 1 13 = true := by rw [hk]; decide
  rw [t19, F_ev rfl]
  simp only [k1, k2, k3, k4, k5, k6, k7, k8, k9, k10, k11, k12, k13, kr, e38, e39, e40, e41, e44, e18n, List.length_map, j19, b19, q19, qq, ww, List.append_nil, List.all_nil, List.all_cons, true_or, or_true, false_or, or_false, List.contains_nil, List.isEmpty_nil, List.take_length, List.getElem?_cons_zero, List.getElem?_cons_succ, List.set_cons_zero, List.set_cons_succ, List.replicate, Option.isNone_none, List.map_append, List.length_append, List.all_nil, List.contains_cons, Nat.reduceBEq, List.map_cons, List.map_nil, List.cons_append, List.nil_append, Option.getD_some, Option.getD_none, Option.map_some, Option.map_none, Option.bind_some, Nat.reduceAdd, Nat.reduceMul, Nat.reduceDiv, Nat.reduceEqDiff, Nat.reduceLeDiff, Nat.reduceLT, Int.reduceEq, Int.reduceNe, Int.reduceLT, Int.reduceLE, Int.reduceAdd, Int.reduceSub, Int.reduceMul, Int.reduceNeg, Int.reduceToNat, Int.reducePow, Nat.reducePow, not_false_eq_true, not_true_eq_false, reduceCtorEq, reduceIte, if_true, if_false, Bool.true_eq_false, Bool.false_eq_true, List.length_cons, List.length_nil, and_self, true_and, and_true, List.drop_zero, List.take_succ_cons, List.take_zero, List.drop_succ_cons]
  repeat' (refine fin_cases (fun h1 => ?_) (fun h1 => ?_) <;> simp only [h1, k1, k2, k3, k4, k5, k6, k7, k8, k9, k10, k11, k12, k13, kr, e38, e39, e40, e41, e44, e18n, List.length_map, j19, b19, q19, qq, ww, List.append_nil, List.all_nil, List.all_cons, true_or, or_true, false_or, or_false, List.contains_nil, List.isEmpty_nil, List.take_length, List.getElem?_cons_zero, List.getElem?_cons_succ, List.set_cons_zero, List.set_cons_succ, List.replicate, Option.isNone_none, List.map_append, List.length_append, List.all_nil, List.contains_cons, Nat.reduceBEq, List.map_cons, List.map_nil, List.cons_append, List.nil_append, Option.getD_some, Option.getD_none, Option.map_some, Option.map_none, Option.bind_some, Nat.reduceAdd, Nat.reduceMul, Nat.reduceDiv, Nat.reduceEqDiff, Nat.reduceLeDiff, Nat.reduceLT, Int.reduceEq, Int.reduceNe, Int.reduceLT, Int.reduceLE, Int.reduceAdd, Int.reduceSub, Int.reduceMul, Int.reduceNeg, Int.reduceToNat, Int.reducePow, Nat.reducePow, not_false_eq_true, not_true_eq_false, reduceCtorEq, reduceIte, if_true, if_false, Bool.true_eq_false, Bool.false_eq_true, List.length_cons, List.length_nil, and_self, true_and, and_true, List.drop_zero, List.take_succ_cons, List.take_zero, List.drop_succ_cons])
  all_goals (try simp only [eq_m])
  all_goals (simp_all [msgOK, okM, knownB, endsB, bareB, restM, whoseB, wayB, plM, dz, dn1, dn2])
  all_goals (try (first | (intros; exact uq_app _ _ (by assumption)) | omega | grind))
theorem e19_4 (N d : Nat) (m : Mg) (ha : m.pa.length < 1000) (hb : m.td.length < 1000) (hk : m.k = 4) : TT (N + 3000) (d + 6) 19 [aM m] = some (bV (msgOK m), []) := by
  have k1 : decide (m.k = 1) = false := by rw [hk]; decide
  have k2 : decide (m.k = 2) = false := by rw [hk]; decide
  have k3 : decide (m.k = 3) = false := by rw [hk]; decide
  have k4 : decide (m.k = 4) = true := by rw [hk]; decide
  have k5 : decide (m.k = 5) = false := by rw [hk]; decide
  have k6 : decide (m.k = 6) = false := by rw [hk]; decide
  have k7 : decide (m.k = 7) = false := by rw [hk]; decide
  have k8 : decide (m.k = 8) = false := by rw [hk]; decide
  have k9 : decide (m.k = 9) = false := by rw [hk]; decide
  have k10 : decide (m.k = 10) = false := by rw [hk]; decide
  have k11 : decide (m.k = 11) = false := by rw [hk]; decide
  have k12 : decide (m.k = 12) = false := by rw [hk]; decide
  have k13 : decide (m.k = 13) = false := by rw [hk]; decide
  have kr : inB m.k 1 13 = true := by rw [hk]; decide
  rw [t19, F_ev rfl]
  simp only [k1, k2, k3, k4, k5, k6, k7, k8, k9, k10, k11, k12, k13, kr, e38, e39, e40, e41, e44, e18n, List.length_map, j19, b19, q19, qq, ww, List.append_nil, List.all_nil, List.all_cons, true_or, or_true, false_or, or_false, List.contains_nil, List.isEmpty_nil, List.take_length, List.getElem?_cons_zero, List.getElem?_cons_succ, List.set_cons_zero, List.set_cons_succ, List.replicate, Option.isNone_none, List.map_append, List.length_append, List.all_nil, List.contains_cons, Nat.reduceBEq, List.map_cons, List.map_nil, List.cons_append, List.nil_append, Option.getD_some, Option.getD_none, Option.map_some, Option.map_none, Option.bind_some, Nat.reduceAdd, Nat.reduceMul, Nat.reduceDiv, Nat.reduceEqDiff, Nat.reduceLeDiff, Nat.reduceLT, Int.reduceEq, Int.reduceNe, Int.reduceLT, Int.reduceLE, Int.reduceAdd, Int.reduceSub, Int.reduceMul, Int.reduceNeg, Int.reduceToNat, Int.reducePow, Nat.reducePow, not_false_eq_true, not_true_eq_false, reduceCtorEq, reduceIte, if_true, if_false, Bool.true_eq_false, Bool.false_eq_true, List.length_cons, List.length_nil, and_self, true_and, and_true, List.drop_zero, List.take_succ_cons, List.take_zero, List.drop_succ_cons]
  repeat' (refine fin_cases (fun h1 => ?_) (fun h1 => ?_) <;> simp only [h1, k1, k2, k3, k4, k5, k6, k7, k8, k9, k10, k11, k12, k13, kr, e38, e39, e40, e41, e44, e18n, List.length_map, j19, b19, q19, qq, ww, List.append_nil, List.all_nil, List.all_cons, true_or, or_true, false_or, or_false, List.contains_nil, List.isEmpty_nil, List.take_length, List.getElem?_cons_zero, List.getElem?_cons_succ, List.set_cons_zero, List.set_cons_succ, List.replicate, Option.isNone_none, List.map_append, List.length_append, List.all_nil, List.contains_cons, Nat.reduceBEq, List.map_cons, List.map_nil, List.cons_append, List.nil_append, Option.getD_some, Option.getD_none, Option.map_some, Option.map_none, Option.bind_some, Nat.reduceAdd, Nat.reduceMul, Nat.reduceDiv, Nat.reduceEqDiff, Nat.reduceLeDiff, Nat.reduceLT, Int.reduceEq, Int.reduceNe, Int.reduceLT, Int.reduceLE, Int.reduceAdd, Int.reduceSub, Int.reduceMul, Int.reduceNeg, Int.reduceToNat, Int.reducePow, Nat.reducePow, not_false_eq_true, not_true_eq_false, reduceCtorEq, reduceIte, if_true, if_false, Bool.true_eq_false, Bool.false_eq_true, List.length_cons, List.length_nil, and_self, true_and, and_true, List.drop_zero, List.take_succ_cons, List.take_zero, List.drop_succ_cons])
  all_goals (try simp only [eq_m])
  all_goals (simp_all [msgOK, okM, knownB, endsB, bareB, restM, whoseB, wayB, plM, dz, dn1, dn2])
  all_goals (try (first | (intros; exact uq_app _ _ (by assumption)) | omega | grind))
theorem e19_5 (N d : Nat) (m : Mg) (ha : m.pa.length < 1000) (hb : m.td.length < 1000) (hk : m.k = 5) : TT (N + 3000) (d + 6) 19 [aM m] = some (bV (msgOK m), []) := by
  have k1 : decide (m.k = 1) = false := by rw [hk]; decide
  have k2 : decide (m.k = 2) = false := by rw [hk]; decide
  have k3 : decide (m.k = 3) = false := by rw [hk]; decide
  have k4 : decide (m.k = 4) = false := by rw [hk]; decide
  have k5 : decide (m.k = 5) = true := by rw [hk]; decide
  have k6 : decide (m.k = 6) = false := by rw [hk]; decide
  have k7 : decide (m.k = 7) = false := by rw [hk]; decide
  have k8 : decide (m.k = 8) = false := by rw [hk]; decide
  have k9 : decide (m.k = 9) = false := by rw [hk]; decide
  have k10 : decide (m.k = 10) = false := by rw [hk]; decide
  have k11 : decide (m.k = 11) = false := by rw [hk]; decide
  have k12 : decide (m.k = 12) = false := by rw [hk]; decide
  have k13 : decide (m.k = 13) = false := by rw [hk]; decide
  have kr : inB m.k 1 13 = true := by rw [hk]; decide
  rw [t19, F_ev rfl]
  simp only [k1, k2, k3, k4, k5, k6, k7, k8, k9, k10, k11, k12, k13, kr, e38, e39, e40, e41, e44, e18n, List.length_map, j19, b19, q19, qq, ww, List.append_nil, List.all_nil, List.all_cons, true_or, or_true, false_or, or_false, List.contains_nil, List.isEmpty_nil, List.take_length, List.getElem?_cons_zero, List.getElem?_cons_succ, List.set_cons_zero, List.set_cons_succ, List.replicate, Option.isNone_none, List.map_append, List.length_append, List.all_nil, List.contains_cons, Nat.reduceBEq, List.map_cons, List.map_nil, List.cons_append, List.nil_append, Option.getD_some, Option.getD_none, Option.map_some, Option.map_none, Option.bind_some, Nat.reduceAdd, Nat.reduceMul, Nat.reduceDiv, Nat.reduceEqDiff, Nat.reduceLeDiff, Nat.reduceLT, Int.reduceEq, Int.reduceNe, Int.reduceLT, Int.reduceLE, Int.reduceAdd, Int.reduceSub, Int.reduceMul, Int.reduceNeg, Int.reduceToNat, Int.reducePow, Nat.reducePow, not_false_eq_true, not_true_eq_false, reduceCtorEq, reduceIte, if_true, if_false, Bool.true_eq_false, Bool.false_eq_true, List.length_cons, List.length_nil, and_self, true_and, and_true, List.drop_zero, List.take_succ_cons, List.take_zero, List.drop_succ_cons]
  repeat' (refine fin_cases (fun h1 => ?_) (fun h1 => ?_) <;> simp only [h1, k1, k2, k3, k4, k5, k6, k7, k8, k9, k10, k11, k12, k13, kr, e38, e39, e40, e41, e44, e18n, List.length_map, j19, b19, q19, qq, ww, List.append_nil, List.all_nil, List.all_cons, true_or, or_true, false_or, or_false, List.contains_nil, List.isEmpty_nil, List.take_length, List.getElem?_cons_zero, List.getElem?_cons_succ, List.set_cons_zero, List.set_cons_succ, List.replicate, Option.isNone_none, List.map_append, List.length_append, List.all_nil, List.contains_cons, Nat.reduceBEq, List.map_cons, List.map_nil, List.cons_append, List.nil_append, Option.getD_some, Option.getD_none, Option.map_some, Option.map_none, Option.bind_some, Nat.reduceAdd, Nat.reduceMul, Nat.reduceDiv, Nat.reduceEqDiff, Nat.reduceLeDiff, Nat.reduceLT, Int.reduceEq, Int.reduceNe, Int.reduceLT, Int.reduceLE, Int.reduceAdd, Int.reduceSub, Int.reduceMul, Int.reduceNeg, Int.reduceToNat, Int.reducePow, Nat.reducePow, not_false_eq_true, not_true_eq_false, reduceCtorEq, reduceIte, if_true, if_false, Bool.true_eq_false, Bool.false_eq_true, List.length_cons, List.length_nil, and_self, true_and, and_true, List.drop_zero, List.take_succ_cons, List.take_zero, List.drop_succ_cons])
  all_goals (try simp only [eq_m])
  all_goals (simp_all [msgOK, okM, knownB, endsB, bareB, restM, whoseB, wayB, plM, dz, dn1, dn2])
  all_goals (try (first | (intros; exact uq_app _ _ (by assumption)) | omega | grind))
theorem e19_6 (N d : Nat) (m : Mg) (ha : m.pa.length < 1000) (hb : m.td.length < 1000) (hk : m.k = 6) : TT (N + 3000) (d + 6) 19 [aM m] = some (bV (msgOK m), []) := by
  have k1 : decide (m.k = 1) = false := by rw [hk]; decide
  have k2 : decide (m.k = 2) = false := by rw [hk]; decide
  have k3 : decide (m.k = 3) = false := by rw [hk]; decide
  have k4 : decide (m.k = 4) = false := by rw [hk]; decide
  have k5 : decide (m.k = 5) = false := by rw [hk]; decide
  have k6 : decide (m.k = 6) = true := by rw [hk]; decide
  have k7 : decide (m.k = 7) = false := by rw [hk]; decide
  have k8 : decide (m.k = 8) = false := by rw [hk]; decide
  have k9 : decide (m.k = 9) = false := by rw [hk]; decide
  have k10 : decide (m.k = 10) = false := by rw [hk]; decide
  have k11 : decide (m.k = 11) = false := by rw [hk]; decide
  have k12 : decide (m.k = 12) = false := by rw [hk]; decide
  have k13 : decide (m.k = 13) = false := by rw [hk]; decide
  have kr : inB m.k 1 13 = true := by rw [hk]; decide
  rw [t19, F_ev rfl]
  simp only [k1, k2, k3, k4, k5, k6, k7, k8, k9, k10, k11, k12, k13, kr, e38, e39, e40, e41, e44, e18n, List.length_map, j19, b19, q19, qq, ww, List.append_nil, List.all_nil, List.all_cons, true_or, or_true, false_or, or_false, List.contains_nil, List.isEmpty_nil, List.take_length, List.getElem?_cons_zero, List.getElem?_cons_succ, List.set_cons_zero, List.set_cons_succ, List.replicate, Option.isNone_none, List.map_append, List.length_append, List.all_nil, List.contains_cons, Nat.reduceBEq, List.map_cons, List.map_nil, List.cons_append, List.nil_append, Option.getD_some, Option.getD_none, Option.map_some, Option.map_none, Option.bind_some, Nat.reduceAdd, Nat.reduceMul, Nat.reduceDiv, Nat.reduceEqDiff, Nat.reduceLeDiff, Nat.reduceLT, Int.reduceEq, Int.reduceNe, Int.reduceLT, Int.reduceLE, Int.reduceAdd, Int.reduceSub, Int.reduceMul, Int.reduceNeg, Int.reduceToNat, Int.reducePow, Nat.reducePow, not_false_eq_true, not_true_eq_false, reduceCtorEq, reduceIte, if_true, if_false, Bool.true_eq_false, Bool.false_eq_true, List.length_cons, List.length_nil, and_self, true_and, and_true, List.drop_zero, List.take_succ_cons, List.take_zero, List.drop_succ_cons]
  repeat' (refine fin_cases (fun h1 => ?_) (fun h1 => ?_) <;> simp only [h1, k1, k2, k3, k4, k5, k6, k7, k8, k9, k10, k11, k12, k13, kr, e38, e39, e40, e41, e44, e18n, List.length_map, j19, b19, q19, qq, ww, List.append_nil, List.all_nil, List.all_cons, true_or, or_true, false_or, or_false, List.contains_nil, List.isEmpty_nil, List.take_length, List.getElem?_cons_zero, List.getElem?_cons_succ, List.set_cons_zero, List.set_cons_succ, List.replicate, Option.isNone_none, List.map_append, List.length_append, List.all_nil, List.contains_cons, Nat.reduceBEq, List.map_cons, List.map_nil, List.cons_append, List.nil_append, Option.getD_some, Option.getD_none, Option.map_some, Option.map_none, Option.bind_some, Nat.reduceAdd, Nat.reduceMul, Nat.reduceDiv, Nat.reduceEqDiff, Nat.reduceLeDiff, Nat.reduceLT, Int.reduceEq, Int.reduceNe, Int.reduceLT, Int.reduceLE, Int.reduceAdd, Int.reduceSub, Int.reduceMul, Int.reduceNeg, Int.reduceToNat, Int.reducePow, Nat.reducePow, not_false_eq_true, not_true_eq_false, reduceCtorEq, reduceIte, if_true, if_false, Bool.true_eq_false, Bool.false_eq_true, List.length_cons, List.length_nil, and_self, true_and, and_true, List.drop_zero, List.take_succ_cons, List.take_zero, List.drop_succ_cons])
  all_goals (try simp only [eq_m])
  all_goals (simp_all [msgOK, okM, knownB, endsB, bareB, restM, whoseB, wayB, plM, dz, dn1, dn2])
  all_goals (try (first | (intros; exact uq_app _ _ (by assumption)) | omega | grind))
theorem e19_7 (N d : Nat) (m : Mg) (ha : m.pa.length < 1000) (hb : m.td.length < 1000) (hk : m.k = 7) : TT (N + 3000) (d + 6) 19 [aM m] = some (bV (msgOK m), []) := by
  have k1 : decide (m.k = 1) = false := by rw [hk]; decide
  have k2 : decide (m.k = 2) = false := by rw [hk]; decide
  have k3 : decide (m.k = 3) = false := by rw [hk]; decide
  have k4 : decide (m.k = 4) = false := by rw [hk]; decide
  have k5 : decide (m.k = 5) = false := by rw [hk]; decide
  have k6 : decide (m.k = 6) = false := by rw [hk]; decide
  have k7 : decide (m.k = 7) = true := by rw [hk]; decide
  have k8 : decide (m.k = 8) = false := by rw [hk]; decide
  have k9 : decide (m.k = 9) = false := by rw [hk]; decide
  have k10 : decide (m.k = 10) = false := by rw [hk]; decide
  have k11 : decide (m.k = 11) = false := by rw [hk]; decide
  have k12 : decide (m.k = 12) = false := by rw [hk]; decide
  have k13 : decide (m.k = 13) = false := by rw [hk]; decide
  have kr : inB m.k 1 13 = true := by rw [hk]; decide
  rw [t19, F_ev rfl]
  simp only [k1, k2, k3, k4, k5, k6, k7, k8, k9, k10, k11, k12, k13, kr, e38, e39, e40, e41, e44, e18n, List.length_map, j19, b19, q19, qq, ww, List.append_nil, List.all_nil, List.all_cons, true_or, or_true, false_or, or_false, List.contains_nil, List.isEmpty_nil, List.take_length, List.getElem?_cons_zero, List.getElem?_cons_succ, List.set_cons_zero, List.set_cons_succ, List.replicate, Option.isNone_none, List.map_append, List.length_append, List.all_nil, List.contains_cons, Nat.reduceBEq, List.map_cons, List.map_nil, List.cons_append, List.nil_append, Option.getD_some, Option.getD_none, Option.map_some, Option.map_none, Option.bind_some, Nat.reduceAdd, Nat.reduceMul, Nat.reduceDiv, Nat.reduceEqDiff, Nat.reduceLeDiff, Nat.reduceLT, Int.reduceEq, Int.reduceNe, Int.reduceLT, Int.reduceLE, Int.reduceAdd, Int.reduceSub, Int.reduceMul, Int.reduceNeg, Int.reduceToNat, Int.reducePow, Nat.reducePow, not_false_eq_true, not_true_eq_false, reduceCtorEq, reduceIte, if_true, if_false, Bool.true_eq_false, Bool.false_eq_true, List.length_cons, List.length_nil, and_self, true_and, and_true, List.drop_zero, List.take_succ_cons, List.take_zero, List.drop_succ_cons]
  repeat' (refine fin_cases (fun h1 => ?_) (fun h1 => ?_) <;> simp only [h1, k1, k2, k3, k4, k5, k6, k7, k8, k9, k10, k11, k12, k13, kr, e38, e39, e40, e41, e44, e18n, List.length_map, j19, b19, q19, qq, ww, List.append_nil, List.all_nil, List.all_cons, true_or, or_true, false_or, or_false, List.contains_nil, List.isEmpty_nil, List.take_length, List.getElem?_cons_zero, List.getElem?_cons_succ, List.set_cons_zero, List.set_cons_succ, List.replicate, Option.isNone_none, List.map_append, List.length_append, List.all_nil, List.contains_cons, Nat.reduceBEq, List.map_cons, List.map_nil, List.cons_append, List.nil_append, Option.getD_some, Option.getD_none, Option.map_some, Option.map_none, Option.bind_some, Nat.reduceAdd, Nat.reduceMul, Nat.reduceDiv, Nat.reduceEqDiff, Nat.reduceLeDiff, Nat.reduceLT, Int.reduceEq, Int.reduceNe, Int.reduceLT, Int.reduceLE, Int.reduceAdd, Int.reduceSub, Int.reduceMul, Int.reduceNeg, Int.reduceToNat, Int.reducePow, Nat.reducePow, not_false_eq_true, not_true_eq_false, reduceCtorEq, reduceIte, if_true, if_false, Bool.true_eq_false, Bool.false_eq_true, List.length_cons, List.length_nil, and_self, true_and, and_true, List.drop_zero, List.take_succ_cons, List.take_zero, List.drop_succ_cons])
  all_goals (try simp only [eq_m])
  all_goals (simp_all [msgOK, okM, knownB, endsB, bareB, restM, whoseB, wayB, plM, dz, dn1, dn2])
  all_goals (try (first | (intros; exact uq_app _ _ (by assumption)) | omega | grind))
theorem e19_8 (N d : Nat) (m : Mg) (ha : m.pa.length < 1000) (hb : m.td.length < 1000) (hk : m.k = 8) : TT (N + 3000) (d + 6) 19 [aM m] = some (bV (msgOK m), []) := by
  have k1 : decide (m.k = 1) = false := by rw [hk]; decide
  have k2 : decide (m.k = 2) = false := by rw [hk]; decide
  have k3 : decide (m.k = 3) = false := by rw [hk]; decide
  have k4 : decide (m.k = 4) = false := by rw [hk]; decide
  have k5 : decide (m.k = 5) = false := by rw [hk]; decide
  have k6 : decide (m.k = 6) = false := by rw [hk]; decide
  have k7 : decide (m.k = 7) = false := by rw [hk]; decide
  have k8 : decide (m.k = 8) = true := by rw [hk]; decide
  have k9 : decide (m.k = 9) = false := by rw [hk]; decide
  have k10 : decide (m.k = 10) = false := by rw [hk]; decide
  have k11 : decide (m.k = 11) = false := by rw [hk]; decide
  have k12 : decide (m.k = 12) = false := by rw [hk]; decide
  have k13 : decide (m.k = 13) = false := by rw [hk]; decide
  have kr : inB m.k 1 13 = true := by rw [hk]; decide
  rw [t19, F_ev rfl]
  simp only [k1, k2, k3, k4, k5, k6, k7, k8, k9, k10, k11, k12, k13, kr, e38, e39, e40, e41, e44, e18n, List.length_map, j19, b19, q19, qq, ww, List.append_nil, List.all_nil, List.all_cons, true_or, or_true, false_or, or_false, List.contains_nil, List.isEmpty_nil, List.take_length, List.getElem?_cons_zero, List.getElem?_cons_succ, List.set_cons_zero, List.set_cons_succ, List.replicate, Option.isNone_none, List.map_append, List.length_append, List.all_nil, List.contains_cons, Nat.reduceBEq, List.map_cons, List.map_nil, List.cons_append, List.nil_append, Option.getD_some, Option.getD_none, Option.map_some, Option.map_none, Option.bind_some, Nat.reduceAdd, Nat.reduceMul, Nat.reduceDiv, Nat.reduceEqDiff, Nat.reduceLeDiff, Nat.reduceLT, Int.reduceEq, Int.reduceNe, Int.reduceLT, Int.reduceLE, Int.reduceAdd, Int.reduceSub, Int.reduceMul, Int.reduceNeg, Int.reduceToNat, Int.reducePow, Nat.reducePow, not_false_eq_true, not_true_eq_false, reduceCtorEq, reduceIte, if_true, if_false, Bool.true_eq_false, Bool.false_eq_true, List.length_cons, List.length_nil, and_self, true_and, and_true, List.drop_zero, List.take_succ_cons, List.take_zero, List.drop_succ_cons]
  repeat' (refine fin_cases (fun h1 => ?_) (fun h1 => ?_) <;> simp only [h1, k1, k2, k3, k4, k5, k6, k7, k8, k9, k10, k11, k12, k13, kr, e38, e39, e40, e41, e44, e18n, List.length_map, j19, b19, q19, qq, ww, List.append_nil, List.all_nil, List.all_cons, true_or, or_true, false_or, or_false, List.contains_nil, List.isEmpty_nil, List.take_length, List.getElem?_cons_zero, List.getElem?_cons_succ, List.set_cons_zero, List.set_cons_succ, List.replicate, Option.isNone_none, List.map_append, List.length_append, List.all_nil, List.contains_cons, Nat.reduceBEq, List.map_cons, List.map_nil, List.cons_append, List.nil_append, Option.getD_some, Option.getD_none, Option.map_some, Option.map_none, Option.bind_some, Nat.reduceAdd, Nat.reduceMul, Nat.reduceDiv, Nat.reduceEqDiff, Nat.reduceLeDiff, Nat.reduceLT, Int.reduceEq, Int.reduceNe, Int.reduceLT, Int.reduceLE, Int.reduceAdd, Int.reduceSub, Int.reduceMul, Int.reduceNeg, Int.reduceToNat, Int.reducePow, Nat.reducePow, not_false_eq_true, not_true_eq_false, reduceCtorEq, reduceIte, if_true, if_false, Bool.true_eq_false, Bool.false_eq_true, List.length_cons, List.length_nil, and_self, true_and, and_true, List.drop_zero, List.take_succ_cons, List.take_zero, List.drop_succ_cons])
  all_goals (try simp only [eq_m])
  all_goals (simp_all [msgOK, okM, knownB, endsB, bareB, restM, whoseB, wayB, plM, dz, dn1, dn2])
  all_goals (try (first | (intros; exact uq_app _ _ (by assumption)) | omega | grind))
theorem e19_9 (N d : Nat) (m : Mg) (ha : m.pa.length < 1000) (hb : m.td.length < 1000) (hk : m.k = 9) : TT (N + 3000) (d + 6) 19 [aM m] = some (bV (msgOK m), []) := by
  have k1 : decide (m.k = 1) = false := by rw [hk]; decide
  have k2 : decide (m.k = 2) = false := by rw [hk]; decide
  have k3 : decide (m.k = 3) = false := by rw [hk]; decide
  have k4 : decide (m.k = 4) = false := by rw [hk]; decide
  have k5 : decide (m.k = 5) = false := by rw [hk]; decide
  have k6 : decide (m.k = 6) = false := by rw [hk]; decide
  have k7 : decide (m.k = 7) = false := by rw [hk]; decide
  have k8 : decide (m.k = 8) = false := by rw [hk]; decide
  have k9 : decide (m.k = 9) = true := by rw [hk]; decide
  have k10 : decide (m.k = 10) = false := by rw [hk]; decide
  have k11 : decide (m.k = 11) = false := by rw [hk]; decide
  have k12 : decide (m.k = 12) = false := by rw [hk]; decide
  have k13 : decide (m.k = 13) = false := by rw [hk]; decide
  have kr : inB m.k 1 13 = true := by rw [hk]; decide
  rw [t19, F_ev rfl]
  simp only [k1, k2, k3, k4, k5, k6, k7, k8, k9, k10, k11, k12, k13, kr, e38, e39, e40, e41, e44, e18n, List.length_map, j19, b19, q19, qq, ww, List.append_nil, List.all_nil, List.all_cons, true_or, or_true, false_or, or_false, List.contains_nil, List.isEmpty_nil, List.take_length, List.getElem?_cons_zero, List.getElem?_cons_succ, List.set_cons_zero, List.set_cons_succ, List.replicate, Option.isNone_none, List.map_append, List.length_append, List.all_nil, List.contains_cons, Nat.reduceBEq, List.map_cons, List.map_nil, List.cons_append, List.nil_append, Option.getD_some, Option.getD_none, Option.map_some, Option.map_none, Option.bind_some, Nat.reduceAdd, Nat.reduceMul, Nat.reduceDiv, Nat.reduceEqDiff, Nat.reduceLeDiff, Nat.reduceLT, Int.reduceEq, Int.reduceNe, Int.reduceLT, Int.reduceLE, Int.reduceAdd, Int.reduceSub, Int.reduceMul, Int.reduceNeg, Int.reduceToNat, Int.reducePow, Nat.reducePow, not_false_eq_true, not_true_eq_false, reduceCtorEq, reduceIte, if_true, if_false, Bool.true_eq_false, Bool.false_eq_true, List.length_cons, List.length_nil, and_self, true_and, and_true, List.drop_zero, List.take_succ_cons, List.take_zero, List.drop_succ_cons]
  repeat' (refine fin_cases (fun h1 => ?_) (fun h1 => ?_) <;> simp only [h1, k1, k2, k3, k4, k5, k6, k7, k8, k9, k10, k11, k12, k13, kr, e38, e39, e40, e41, e44, e18n, List.length_map, j19, b19, q19, qq, ww, List.append_nil, List.all_nil, List.all_cons, true_or, or_true, false_or, or_false, List.contains_nil, List.isEmpty_nil, List.take_length, List.getElem?_cons_zero, List.getElem?_cons_succ, List.set_cons_zero, List.set_cons_succ, List.replicate, Option.isNone_none, List.map_append, List.length_append, List.all_nil, List.contains_cons, Nat.reduceBEq, List.map_cons, List.map_nil, List.cons_append, List.nil_append, Option.getD_some, Option.getD_none, Option.map_some, Option.map_none, Option.bind_some, Nat.reduceAdd, Nat.reduceMul, Nat.reduceDiv, Nat.reduceEqDiff, Nat.reduceLeDiff, Nat.reduceLT, Int.reduceEq, Int.reduceNe, Int.reduceLT, Int.reduceLE, Int.reduceAdd, Int.reduceSub, Int.reduceMul, Int.reduceNeg, Int.reduceToNat, Int.reducePow, Nat.reducePow, not_false_eq_true, not_true_eq_false, reduceCtorEq, reduceIte, if_true, if_false, Bool.true_eq_false, Bool.false_eq_true, List.length_cons, List.length_nil, and_self, true_and, and_true, List.drop_zero, List.take_succ_cons, List.take_zero, List.drop_succ_cons])
  all_goals (try simp only [eq_m])
  all_goals (simp_all [msgOK, okM, knownB, endsB, bareB, restM, whoseB, wayB, plM, dz, dn1, dn2])
  all_goals (try (first | (intros; exact uq_app _ _ (by assumption)) | omega | grind))
theorem e19_10 (N d : Nat) (m : Mg) (ha : m.pa.length < 1000) (hb : m.td.length < 1000) (hk : m.k = 10) : TT (N + 3000) (d + 6) 19 [aM m] = some (bV (msgOK m), []) := by
  have k1 : decide (m.k = 1) = false := by rw [hk]; decide
  have k2 : decide (m.k = 2) = false := by rw [hk]; decide
  have k3 : decide (m.k = 3) = false := by rw [hk]; decide
  have k4 : decide (m.k = 4) = false := by rw [hk]; decide
  have k5 : decide (m.k = 5) = false := by rw [hk]; decide
  have k6 : decide (m.k = 6) = false := by rw [hk]; decide
  have k7 : decide (m.k = 7) = false := by rw [hk]; decide
  have k8 : decide (m.k = 8) = false := by rw [hk]; decide
  have k9 : decide (m.k = 9) = false := by rw [hk]; decide
  have k10 : decide (m.k = 10) = true := by rw [hk]; decide
  have k11 : decide (m.k = 11) = false := by rw [hk]; decide
  have k12 : decide (m.k = 12) = false := by rw [hk]; decide
  have k13 : decide (m.k = 13) = false := by rw [hk]; decide
  have kr : inB m.k 1 13 = true := by rw [hk]; decide
  rw [t19, F_ev rfl]
  simp only [k1, k2, k3, k4, k5, k6, k7, k8, k9, k10, k11, k12, k13, kr, e38, e39, e40, e41, e44, e18n, List.length_map, j19, b19, q19, qq, ww, List.append_nil, List.all_nil, List.all_cons, true_or, or_true, false_or, or_false, List.contains_nil, List.isEmpty_nil, List.take_length, List.getElem?_cons_zero, List.getElem?_cons_succ, List.set_cons_zero, List.set_cons_succ, List.replicate, Option.isNone_none, List.map_append, List.length_append, List.all_nil, List.contains_cons, Nat.reduceBEq, List.map_cons, List.map_nil, List.cons_append, List.nil_append, Option.getD_some, Option.getD_none, Option.map_some, Option.map_none, Option.bind_some, Nat.reduceAdd, Nat.reduceMul, Nat.reduceDiv, Nat.reduceEqDiff, Nat.reduceLeDiff, Nat.reduceLT, Int.reduceEq, Int.reduceNe, Int.reduceLT, Int.reduceLE, Int.reduceAdd, Int.reduceSub, Int.reduceMul, Int.reduceNeg, Int.reduceToNat, Int.reducePow, Nat.reducePow, not_false_eq_true, not_true_eq_false, reduceCtorEq, reduceIte, if_true, if_false, Bool.true_eq_false, Bool.false_eq_true, List.length_cons, List.length_nil, and_self, true_and, and_true, List.drop_zero, List.take_succ_cons, List.take_zero, List.drop_succ_cons]
  repeat' (refine fin_cases (fun h1 => ?_) (fun h1 => ?_) <;> simp only [h1, k1, k2, k3, k4, k5, k6, k7, k8, k9, k10, k11, k12, k13, kr, e38, e39, e40, e41, e44, e18n, List.length_map, j19, b19, q19, qq, ww, List.append_nil, List.all_nil, List.all_cons, true_or, or_true, false_or, or_false, List.contains_nil, List.isEmpty_nil, List.take_length, List.getElem?_cons_zero, List.getElem?_cons_succ, List.set_cons_zero, List.set_cons_succ, List.replicate, Option.isNone_none, List.map_append, List.length_append, List.all_nil, List.contains_cons, Nat.reduceBEq, List.map_cons, List.map_nil, List.cons_append, List.nil_append, Option.getD_some, Option.getD_none, Option.map_some, Option.map_none, Option.bind_some, Nat.reduceAdd, Nat.reduceMul, Nat.reduceDiv, Nat.reduceEqDiff, Nat.reduceLeDiff, Nat.reduceLT, Int.reduceEq, Int.reduceNe, Int.reduceLT, Int.reduceLE, Int.reduceAdd, Int.reduceSub, Int.reduceMul, Int.reduceNeg, Int.reduceToNat, Int.reducePow, Nat.reducePow, not_false_eq_true, not_true_eq_false, reduceCtorEq, reduceIte, if_true, if_false, Bool.true_eq_false, Bool.false_eq_true, List.length_cons, List.length_nil, and_self, true_and, and_true, List.drop_zero, List.take_succ_cons, List.take_zero, List.drop_succ_cons])
  all_goals (try simp only [eq_m])
  all_goals (simp_all [msgOK, okM, knownB, endsB, bareB, restM, whoseB, wayB, plM, dz, dn1, dn2])
  all_goals (try (first | (intros; exact uq_app _ _ (by assumption)) | omega | grind))
theorem e19_11 (N d : Nat) (m : Mg) (ha : m.pa.length < 1000) (hb : m.td.length < 1000) (hk : m.k = 11) : TT (N + 3000) (d + 6) 19 [aM m] = some (bV (msgOK m), []) := by
  have k1 : decide (m.k = 1) = false := by rw [hk]; decide
  have k2 : decide (m.k = 2) = false := by rw [hk]; decide
  have k3 : decide (m.k = 3) = false := by rw [hk]; decide
  have k4 : decide (m.k = 4) = false := by rw [hk]; decide
  have k5 : decide (m.k = 5) = false := by rw [hk]; decide
  have k6 : decide (m.k = 6) = false := by rw [hk]; decide
  have k7 : decide (m.k = 7) = false := by rw [hk]; decide
  have k8 : decide (m.k = 8) = false := by rw [hk]; decide
  have k9 : decide (m.k = 9) = false := by rw [hk]; decide
  have k10 : decide (m.k = 10) = false := by rw [hk]; decide
  have k11 : decide (m.k = 11) = true := by rw [hk]; decide
  have k12 : decide (m.k = 12) = false := by rw [hk]; decide
  have k13 : decide (m.k = 13) = false := by rw [hk]; decide
  have kr : inB m.k 1 13 = true := by rw [hk]; decide
  have h58a := fun d => e42 (N + 3000) d m.pa (by omega) (by omega)
  have h58b := fun d => e42 (N + 3000) d m.td (by omega) (by omega)
  have h32 := fun d => e43x (N + 3000) d m.pa m.td (by omega) (by omega)
  have h32a := fun d => e43 (N + 3000) d m.pa (by omega) (by omega)
  have h26 := fun d => e28 (N + 3000) d m.pa (by omega)
  have h30p := fun d k f fi t ti tp e s l v nd ic c h => e18p N d k f fi t ti tp e s l v nd ic c h m.pa m ha
  have h30t := fun d k f fi t ti tp e s l v nd ic c h => e18t N d k f fi t ti tp e s l v nd ic c h m.pa m.td m ha hb
  have hb8 : m.pa.length * 8 ≤ 140737488355328 := by omega
  have hb9 : (m.pa.length + m.td.length) * 8 ≤ 140737488355328 := by omega
  rw [t19, F_ev rfl]
  simp only [k1, k2, k3, k4, k5, k6, k7, k8, k9, k10, k11, k12, k13, kr, e38, e39, e40, e41, e44, e18n, h58a, h58b, h32, h32a, h26, h30p, h30t, hb8, hb9, all1, takeI, takeA, selfI, List.length_map, j19, b19, q19, qq, ww, List.append_nil, List.all_nil, List.all_cons, true_or, or_true, false_or, or_false, List.contains_nil, List.isEmpty_nil, List.take_length, List.getElem?_cons_zero, List.getElem?_cons_succ, List.set_cons_zero, List.set_cons_succ, List.replicate, Option.isNone_none, List.map_append, List.length_append, List.all_nil, List.contains_cons, Nat.reduceBEq, List.map_cons, List.map_nil, List.cons_append, List.nil_append, Option.getD_some, Option.getD_none, Option.map_some, Option.map_none, Option.bind_some, Nat.reduceAdd, Nat.reduceMul, Nat.reduceDiv, Nat.reduceEqDiff, Nat.reduceLeDiff, Nat.reduceLT, Int.reduceEq, Int.reduceNe, Int.reduceLT, Int.reduceLE, Int.reduceAdd, Int.reduceSub, Int.reduceMul, Int.reduceNeg, Int.reduceToNat, Int.reducePow, Nat.reducePow, not_false_eq_true, not_true_eq_false, reduceCtorEq, reduceIte, if_true, if_false, Bool.true_eq_false, Bool.false_eq_true, List.length_cons, List.length_nil, and_self, true_and, and_true, List.drop_zero, List.take_succ_cons, List.take_zero, List.drop_succ_cons]
  repeat' (refine fin_cases (fun h1 => ?_) (fun h1 => ?_) <;> simp only [h1, k1, k2, k3, k4, k5, k6, k7, k8, k9, k10, k11, k12, k13, kr, e38, e39, e40, e41, e44, e18n, h58a, h58b, h32, h32a, h26, h30p, h30t, hb8, hb9, all1, takeI, takeA, selfI, List.length_map, j19, b19, q19, qq, ww, List.append_nil, List.all_nil, List.all_cons, true_or, or_true, false_or, or_false, List.contains_nil, List.isEmpty_nil, List.take_length, List.getElem?_cons_zero, List.getElem?_cons_succ, List.set_cons_zero, List.set_cons_succ, List.replicate, Option.isNone_none, List.map_append, List.length_append, List.all_nil, List.contains_cons, Nat.reduceBEq, List.map_cons, List.map_nil, List.cons_append, List.nil_append, Option.getD_some, Option.getD_none, Option.map_some, Option.map_none, Option.bind_some, Nat.reduceAdd, Nat.reduceMul, Nat.reduceDiv, Nat.reduceEqDiff, Nat.reduceLeDiff, Nat.reduceLT, Int.reduceEq, Int.reduceNe, Int.reduceLT, Int.reduceLE, Int.reduceAdd, Int.reduceSub, Int.reduceMul, Int.reduceNeg, Int.reduceToNat, Int.reducePow, Nat.reducePow, not_false_eq_true, not_true_eq_false, reduceCtorEq, reduceIte, if_true, if_false, Bool.true_eq_false, Bool.false_eq_true, List.length_cons, List.length_nil, and_self, true_and, and_true, List.drop_zero, List.take_succ_cons, List.take_zero, List.drop_succ_cons])
  all_goals (clear h58a h58b h32 h32a h26 h30p h30t; try simp only [eq_m])
  all_goals (simp_all [msgOK, okM, knownB, endsB, bareB, restM, whoseB, wayB, plM, dz, dn1, dn2])
  all_goals (try (first | (intros; exact uq_app _ _ (by assumption)) | omega | grind))
theorem e19_12 (N d : Nat) (m : Mg) (ha : m.pa.length < 1000) (hb : m.td.length < 1000) (hk : m.k = 12) : TT (N + 3000) (d + 6) 19 [aM m] = some (bV (msgOK m), []) := by
  have k1 : decide (m.k = 1) = false := by rw [hk]; decide
  have k2 : decide (m.k = 2) = false := by rw [hk]; decide
  have k3 : decide (m.k = 3) = false := by rw [hk]; decide
  have k4 : decide (m.k = 4) = false := by rw [hk]; decide
  have k5 : decide (m.k = 5) = false := by rw [hk]; decide
  have k6 : decide (m.k = 6) = false := by rw [hk]; decide
  have k7 : decide (m.k = 7) = false := by rw [hk]; decide
  have k8 : decide (m.k = 8) = false := by rw [hk]; decide
  have k9 : decide (m.k = 9) = false := by rw [hk]; decide
  have k10 : decide (m.k = 10) = false := by rw [hk]; decide
  have k11 : decide (m.k = 11) = false := by rw [hk]; decide
  have k12 : decide (m.k = 12) = true := by rw [hk]; decide
  have k13 : decide (m.k = 13) = false := by rw [hk]; decide
  have kr : inB m.k 1 13 = true := by rw [hk]; decide
  rw [t19, F_ev rfl]
  simp only [k1, k2, k3, k4, k5, k6, k7, k8, k9, k10, k11, k12, k13, kr, e38, e39, e40, e41, e44, e18n, List.length_map, j19, b19, q19, qq, ww, List.append_nil, List.all_nil, List.all_cons, true_or, or_true, false_or, or_false, List.contains_nil, List.isEmpty_nil, List.take_length, List.getElem?_cons_zero, List.getElem?_cons_succ, List.set_cons_zero, List.set_cons_succ, List.replicate, Option.isNone_none, List.map_append, List.length_append, List.all_nil, List.contains_cons, Nat.reduceBEq, List.map_cons, List.map_nil, List.cons_append, List.nil_append, Option.getD_some, Option.getD_none, Option.map_some, Option.map_none, Option.bind_some, Nat.reduceAdd, Nat.reduceMul, Nat.reduceDiv, Nat.reduceEqDiff, Nat.reduceLeDiff, Nat.reduceLT, Int.reduceEq, Int.reduceNe, Int.reduceLT, Int.reduceLE, Int.reduceAdd, Int.reduceSub, Int.reduceMul, Int.reduceNeg, Int.reduceToNat, Int.reducePow, Nat.reducePow, not_false_eq_true, not_true_eq_false, reduceCtorEq, reduceIte, if_true, if_false, Bool.true_eq_false, Bool.false_eq_true, List.length_cons, List.length_nil, and_self, true_and, and_true, List.drop_zero, List.take_succ_cons, List.take_zero, List.drop_succ_cons]
  repeat' (refine fin_cases (fun h1 => ?_) (fun h1 => ?_) <;> simp only [h1, k1, k2, k3, k4, k5, k6, k7, k8, k9, k10, k11, k12, k13, kr, e38, e39, e40, e41, e44, e18n, List.length_map, j19, b19, q19, qq, ww, List.append_nil, List.all_nil, List.all_cons, true_or, or_true, false_or, or_false, List.contains_nil, List.isEmpty_nil, List.take_length, List.getElem?_cons_zero, List.getElem?_cons_succ, List.set_cons_zero, List.set_cons_succ, List.replicate, Option.isNone_none, List.map_append, List.length_append, List.all_nil, List.contains_cons, Nat.reduceBEq, List.map_cons, List.map_nil, List.cons_append, List.nil_append, Option.getD_some, Option.getD_none, Option.map_some, Option.map_none, Option.bind_some, Nat.reduceAdd, Nat.reduceMul, Nat.reduceDiv, Nat.reduceEqDiff, Nat.reduceLeDiff, Nat.reduceLT, Int.reduceEq, Int.reduceNe, Int.reduceLT, Int.reduceLE, Int.reduceAdd, Int.reduceSub, Int.reduceMul, Int.reduceNeg, Int.reduceToNat, Int.reducePow, Nat.reducePow, not_false_eq_true, not_true_eq_false, reduceCtorEq, reduceIte, if_true, if_false, Bool.true_eq_false, Bool.false_eq_true, List.length_cons, List.length_nil, and_self, true_and, and_true, List.drop_zero, List.take_succ_cons, List.take_zero, List.drop_succ_cons])
  all_goals (try simp only [eq_m])
  all_goals (simp_all [msgOK, okM, knownB, endsB, bareB, restM, whoseB, wayB, plM, dz, dn1, dn2])
  all_goals (try (first | (intros; exact uq_app _ _ (by assumption)) | omega | grind))
theorem e19_13 (N d : Nat) (m : Mg) (ha : m.pa.length < 1000) (hb : m.td.length < 1000) (hk : m.k = 13) : TT (N + 3000) (d + 6) 19 [aM m] = some (bV (msgOK m), []) := by
  have k1 : decide (m.k = 1) = false := by rw [hk]; decide
  have k2 : decide (m.k = 2) = false := by rw [hk]; decide
  have k3 : decide (m.k = 3) = false := by rw [hk]; decide
  have k4 : decide (m.k = 4) = false := by rw [hk]; decide
  have k5 : decide (m.k = 5) = false := by rw [hk]; decide
  have k6 : decide (m.k = 6) = false := by rw [hk]; decide
  have k7 : decide (m.k = 7) = false := by rw [hk]; decide
  have k8 : decide (m.k = 8) = false := by rw [hk]; decide
  have k9 : decide (m.k = 9) = false := by rw [hk]; decide
  have k10 : decide (m.k = 10) = false := by rw [hk]; decide
  have k11 : decide (m.k = 11) = false := by rw [hk]; decide
  have k12 : decide (m.k = 12) = false := by rw [hk]; decide
  have k13 : decide (m.k = 13) = true := by rw [hk]; decide
  have kr : inB m.k 1 13 = true := by rw [hk]; decide
  rw [t19, F_ev rfl]
  simp only [k1, k2, k3, k4, k5, k6, k7, k8, k9, k10, k11, k12, k13, kr, e38, e39, e40, e41, e44, e18n, List.length_map, j19, b19, q19, qq, ww, List.append_nil, List.all_nil, List.all_cons, true_or, or_true, false_or, or_false, List.contains_nil, List.isEmpty_nil, List.take_length, List.getElem?_cons_zero, List.getElem?_cons_succ, List.set_cons_zero, List.set_cons_succ, List.replicate, Option.isNone_none, List.map_append, List.length_append, List.all_nil, List.contains_cons, Nat.reduceBEq, List.map_cons, List.map_nil, List.cons_append, List.nil_append, Option.getD_some, Option.getD_none, Option.map_some, Option.map_none, Option.bind_some, Nat.reduceAdd, Nat.reduceMul, Nat.reduceDiv, Nat.reduceEqDiff, Nat.reduceLeDiff, Nat.reduceLT, Int.reduceEq, Int.reduceNe, Int.reduceLT, Int.reduceLE, Int.reduceAdd, Int.reduceSub, Int.reduceMul, Int.reduceNeg, Int.reduceToNat, Int.reducePow, Nat.reducePow, not_false_eq_true, not_true_eq_false, reduceCtorEq, reduceIte, if_true, if_false, Bool.true_eq_false, Bool.false_eq_true, List.length_cons, List.length_nil, and_self, true_and, and_true, List.drop_zero, List.take_succ_cons, List.take_zero, List.drop_succ_cons]
  repeat' (refine fin_cases (fun h1 => ?_) (fun h1 => ?_) <;> simp only [h1, k1, k2, k3, k4, k5, k6, k7, k8, k9, k10, k11, k12, k13, kr, e38, e39, e40, e41, e44, e18n, List.length_map, j19, b19, q19, qq, ww, List.append_nil, List.all_nil, List.all_cons, true_or, or_true, false_or, or_false, List.contains_nil, List.isEmpty_nil, List.take_length, List.getElem?_cons_zero, List.getElem?_cons_succ, List.set_cons_zero, List.set_cons_succ, List.replicate, Option.isNone_none, List.map_append, List.length_append, List.all_nil, List.contains_cons, Nat.reduceBEq, List.map_cons, List.map_nil, List.cons_append, List.nil_append, Option.getD_some, Option.getD_none, Option.map_some, Option.map_none, Option.bind_some, Nat.reduceAdd, Nat.reduceMul, Nat.reduceDiv, Nat.reduceEqDiff, Nat.reduceLeDiff, Nat.reduceLT, Int.reduceEq, Int.reduceNe, Int.reduceLT, Int.reduceLE, Int.reduceAdd, Int.reduceSub, Int.reduceMul, Int.reduceNeg, Int.reduceToNat, Int.reducePow, Nat.reducePow, not_false_eq_true, not_true_eq_false, reduceCtorEq, reduceIte, if_true, if_false, Bool.true_eq_false, Bool.false_eq_true, List.length_cons, List.length_nil, and_self, true_and, and_true, List.drop_zero, List.take_succ_cons, List.take_zero, List.drop_succ_cons])
  all_goals (try simp only [eq_m])
  all_goals (simp_all [msgOK, okM, knownB, endsB, bareB, restM, whoseB, wayB, plM, dz, dn1, dn2])
  all_goals (try (first | (intros; exact uq_app _ _ (by assumption)) | omega | grind))
end Go.Proofs.Ytgjacdfiilcaaaa.MA
