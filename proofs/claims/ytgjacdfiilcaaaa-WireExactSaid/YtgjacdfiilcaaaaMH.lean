import Derived.Test.YtgjacdfiilcaaaaMG
import Derived.ProofKit
set_option linter.unusedSimpArgs false
set_option linter.unusedVariables false
namespace Go.Proofs.Ytgjacdfiilcaaaa.MA
open Go Go.Proofs.YtgjacdfiilcaaaaR Go.Proofs.Ytgjacdfiilcaaaa.IW
set_option maxRecDepth 100000
set_option maxHeartbeats 4000000
theorem e19_3 (N d : Nat) (m : Mg) (ha : m.pa.length < 1000) (hb : m.td.length < 1000) (hk : m.k = 3) : TT (N + 3000) (d + 6) 19 [aM m] = some (bV (msgOK m), []) := by
  have h58a := fun d => e42 (N + 3000) d m.pa (by omega) (by omega)
  have h58b := fun d => e42 (N + 3000) d m.td (by omega) (by omega)
  have h32 := fun d => e43x (N + 3000) d m.pa m.td (by omega) (by omega)
  have h32a := fun d => e43 (N + 3000) d m.pa (by omega) (by omega)
  have h26 := fun d => e28 (N + 3000) d m.pa (by omega)
  have h30p := fun d k f fi t ti tp e s l v nd ic c h => e18p N d k f fi t ti tp e s l v nd ic c h m.pa m ha
  have h30t := fun d k f fi t ti tp e s l v nd ic c h => e18t N d k f fi t ti tp e s l v nd ic c h m.pa m.td m ha hb
  have hb8 : m.pa.length * 8 ≤ 140737488355328 := by omega
  have hb9 : (m.pa.length + m.td.length) * 8 ≤ 140737488355328 := by omega
  have k1 : decide (m.k = 1) = false := by rw [hk]; decide
  have k2 : decide (m.k = 2) = false := by rw [hk]; decide
  have k3 : decide (m.k = 3) = true := by rw [hk]; decide
  have k4 : decide (m.k = 4) = false := by rw [hk]; decide
  have k5 : decide (m.k = 5) = false := by rw [hk]; decide
  have k6 : decide (m.k = 6) = false := by rw [hk]; decide
  have k7 : decide (m.k = 7) = false := by rw [hk]; decide
  have k8 : decide (m.k = 8) = false := by rw [hk]; decide
  have k9 : decide (m.k = 9) = false := by rw [hk]; decide
  have k10 : decide (m.k = 10) = false := by rw [hk]; decide
  have k11 : decide (m.k = 11) = false := by rw [hk]; decide
  have k12 : decide (m.k = 12) = false := by rw [hk]; decide
  have k13 : decide (m.k = 13) = false := by rw [hk]; decide
  have kr : inB m.k 1 13 = true := by rw [hk]; decide
  rw [t19, F_ev rfl]
  cases hp : m.pa.isEmpty with
  | true =>
    simp only [hp, k1, k2, k3, k4, k5, k6, k7, k8, k9, k10, k11, k12, k13, kr, e38, e39, e40, e41, e44, e18n, h58a, h58b, h32, h32a, h26, h30p, h30t, hb8, hb9, all1, takeI, takeA, selfI, lenpos, List.length_map, j19, b19, q19, qq, ww, List.append_nil, List.all_nil, List.all_cons, true_or, or_true, false_or, or_false, List.contains_nil, List.isEmpty_nil, List.take_length, List.getElem?_cons_zero, List.getElem?_cons_succ, List.set_cons_zero, List.set_cons_succ, List.replicate, Option.isNone_none, List.map_append, List.length_append, List.all_nil, List.contains_cons, Nat.reduceBEq, List.map_cons, List.map_nil, List.cons_append, List.nil_append, Option.getD_some, Option.getD_none, Option.map_some, Option.map_none, Option.bind_some, Nat.reduceAdd, Nat.reduceMul, Nat.reduceDiv, Nat.reduceEqDiff, Nat.reduceLeDiff, Nat.reduceLT, Int.reduceEq, Int.reduceNe, Int.reduceLT, Int.reduceLE, Int.reduceAdd, Int.reduceSub, Int.reduceMul, Int.reduceNeg, Int.reduceToNat, Int.reducePow, Nat.reducePow, not_false_eq_true, not_true_eq_false, reduceCtorEq, reduceIte, if_true, if_false, Bool.true_eq_false, Bool.false_eq_true, List.length_cons, List.length_nil, and_self, true_and, and_true, List.drop_zero, List.take_succ_cons, List.take_zero, List.drop_succ_cons]
    repeat' (refine fin_cases (fun h1 => ?_) (fun h1 => ?_) <;> simp only [h1, hp, k1, k2, k3, k4, k5, k6, k7, k8, k9, k10, k11, k12, k13, kr, e38, e39, e40, e41, e44, e18n, h58a, h58b, h32, h32a, h26, h30p, h30t, hb8, hb9, all1, takeI, takeA, selfI, lenpos, List.length_map, j19, b19, q19, qq, ww, List.append_nil, List.all_nil, List.all_cons, true_or, or_true, false_or, or_false, List.contains_nil, List.isEmpty_nil, List.take_length, List.getElem?_cons_zero, List.getElem?_cons_succ, List.set_cons_zero, List.set_cons_succ, List.replicate, Option.isNone_none, List.map_append, List.length_append, List.all_nil, List.contains_cons, Nat.reduceBEq, List.map_cons, List.map_nil, List.cons_append, List.nil_append, Option.getD_some, Option.getD_none, Option.map_some, Option.map_none, Option.bind_some, Nat.reduceAdd, Nat.reduceMul, Nat.reduceDiv, Nat.reduceEqDiff, Nat.reduceLeDiff, Nat.reduceLT, Int.reduceEq, Int.reduceNe, Int.reduceLT, Int.reduceLE, Int.reduceAdd, Int.reduceSub, Int.reduceMul, Int.reduceNeg, Int.reduceToNat, Int.reducePow, Nat.reducePow, not_false_eq_true, not_true_eq_false, reduceCtorEq, reduceIte, if_true, if_false, Bool.true_eq_false, Bool.false_eq_true, List.length_cons, List.length_nil, and_self, true_and, and_true, List.drop_zero, List.take_succ_cons, List.take_zero, List.drop_succ_cons])
    all_goals (clear h58a h58b h32 h32a h26 h30p h30t; try simp only [eq_m])
    all_goals (simp_all [msgOK, okM, knownB, endsB, bareB, restM, whoseB, wayB, plM, dz, dn1, dn2])
    all_goals (try (first | omega | grind))
  | false =>
    have hg : (m.pa.map eI)[0]? = some (eI (m.pa.headD 0)) := by cases h : m.pa with
      | nil => rw [h] at hp; cases hp
      | cons a r => rfl
    have hpos : (0 : Int) < (m.pa.length : Int) := by cases h : m.pa with
      | nil => rw [h] at hp; cases hp
      | cons a r => simp
    simp only [hp, hg, hpos, k1, k2, k3, k4, k5, k6, k7, k8, k9, k10, k11, k12, k13, kr, e38, e39, e40, e41, e44, e18n, h58a, h58b, h32, h32a, h26, h30p, h30t, hb8, hb9, all1, takeI, takeA, selfI, lenpos, List.length_map, j19, b19, q19, qq, ww, List.append_nil, List.all_nil, List.all_cons, true_or, or_true, false_or, or_false, List.contains_nil, List.isEmpty_nil, List.take_length, List.getElem?_cons_zero, List.getElem?_cons_succ, List.set_cons_zero, List.set_cons_succ, List.replicate, Option.isNone_none, List.map_append, List.length_append, List.all_nil, List.contains_cons, Nat.reduceBEq, List.map_cons, List.map_nil, List.cons_append, List.nil_append, Option.getD_some, Option.getD_none, Option.map_some, Option.map_none, Option.bind_some, Nat.reduceAdd, Nat.reduceMul, Nat.reduceDiv, Nat.reduceEqDiff, Nat.reduceLeDiff, Nat.reduceLT, Int.reduceEq, Int.reduceNe, Int.reduceLT, Int.reduceLE, Int.reduceAdd, Int.reduceSub, Int.reduceMul, Int.reduceNeg, Int.reduceToNat, Int.reducePow, Nat.reducePow, not_false_eq_true, not_true_eq_false, reduceCtorEq, reduceIte, if_true, if_false, Bool.true_eq_false, Bool.false_eq_true, List.length_cons, List.length_nil, and_self, true_and, and_true, List.drop_zero, List.take_succ_cons, List.take_zero, List.drop_succ_cons]
    repeat' (refine fin_cases (fun h1 => ?_) (fun h1 => ?_) <;> simp only [h1, hp, hg, hpos, k1, k2, k3, k4, k5, k6, k7, k8, k9, k10, k11, k12, k13, kr, e38, e39, e40, e41, e44, e18n, h58a, h58b, h32, h32a, h26, h30p, h30t, hb8, hb9, all1, takeI, takeA, selfI, lenpos, List.length_map, j19, b19, q19, qq, ww, List.append_nil, List.all_nil, List.all_cons, true_or, or_true, false_or, or_false, List.contains_nil, List.isEmpty_nil, List.take_length, List.getElem?_cons_zero, List.getElem?_cons_succ, List.set_cons_zero, List.set_cons_succ, List.replicate, Option.isNone_none, List.map_append, List.length_append, List.all_nil, List.contains_cons, Nat.reduceBEq, List.map_cons, List.map_nil, List.cons_append, List.nil_append, Option.getD_some, Option.getD_none, Option.map_some, Option.map_none, Option.bind_some, Nat.reduceAdd, Nat.reduceMul, Nat.reduceDiv, Nat.reduceEqDiff, Nat.reduceLeDiff, Nat.reduceLT, Int.reduceEq, Int.reduceNe, Int.reduceLT, Int.reduceLE, Int.reduceAdd, Int.reduceSub, Int.reduceMul, Int.reduceNeg, Int.reduceToNat, Int.reducePow, Nat.reducePow, not_false_eq_true, not_true_eq_false, reduceCtorEq, reduceIte, if_true, if_false, Bool.true_eq_false, Bool.false_eq_true, List.length_cons, List.length_nil, and_self, true_and, and_true, List.drop_zero, List.take_succ_cons, List.take_zero, List.drop_succ_cons])
    all_goals (clear h58a h58b h32 h32a h26 h30p h30t; try simp only [eq_m])
    all_goals (simp_all [msgOK, okM, knownB, endsB, bareB, restM, whoseB, wayB, plM, dz, dn1, dn2])
    all_goals (try (first | omega | grind))
theorem e19 (N d : Nat) (m : Mg) (ha : m.pa.length < 1000) (hb : m.td.length < 1000) : TT (N + 3000) (d + 6) 19 [aM m] = some (bV (msgOK m), []) := by
  by_cases h1 : m.k = 1
  · exact e19_1 N d m ha hb h1
  by_cases h2 : m.k = 2
  · exact e19_2 N d m ha hb h2
  by_cases h3 : m.k = 3
  · exact e19_3 N d m ha hb h3
  by_cases h4 : m.k = 4
  · exact e19_4 N d m ha hb h4
  by_cases h5 : m.k = 5
  · exact e19_5 N d m ha hb h5
  by_cases h6 : m.k = 6
  · exact e19_6 N d m ha hb h6
  by_cases h7 : m.k = 7
  · exact e19_7 N d m ha hb h7
  by_cases h8 : m.k = 8
  · exact e19_8 N d m ha hb h8
  by_cases h9 : m.k = 9
  · exact e19_9 N d m ha hb h9
  by_cases h10 : m.k = 10
  · exact e19_10 N d m ha hb h10
  by_cases h11 : m.k = 11
  · exact e19_11 N d m ha hb h11
  by_cases h12 : m.k = 12
  · exact e19_12 N d m ha hb h12
  by_cases h13 : m.k = 13
  · exact e19_13 N d m ha hb h13
  have kr : inB m.k 1 13 = false := by simp [inB]; omega
  rw [t19, F_ev rfl]
  simp only [kr, e38, j19, b19, q19, qq, ww, List.append_nil, List.all_nil, List.all_cons, true_or, or_true, false_or, or_false, List.contains_nil, List.isEmpty_nil, List.take_length, List.getElem?_cons_zero, List.getElem?_cons_succ, List.set_cons_zero, List.set_cons_succ, List.replicate, Option.isNone_none, List.map_append, List.length_append, List.all_nil, List.contains_cons, Nat.reduceBEq, List.map_cons, List.map_nil, List.cons_append, List.nil_append, Option.getD_some, Option.getD_none, Option.map_some, Option.map_none, Option.bind_some, Nat.reduceAdd, Nat.reduceMul, Nat.reduceDiv, Nat.reduceEqDiff, Nat.reduceLeDiff, Nat.reduceLT, Int.reduceEq, Int.reduceNe, Int.reduceLT, Int.reduceLE, Int.reduceAdd, Int.reduceSub, Int.reduceMul, Int.reduceNeg, Int.reduceToNat, Int.reducePow, Nat.reducePow, not_false_eq_true, not_true_eq_false, reduceCtorEq, reduceIte, if_true, if_false, Bool.true_eq_false, Bool.false_eq_true, List.length_cons, List.length_nil, and_self, true_and, and_true, List.drop_zero, List.take_succ_cons, List.take_zero, List.drop_succ_cons]
  simp_all [msgOK, okM]
end Go.Proofs.Ytgjacdfiilcaaaa.MA
