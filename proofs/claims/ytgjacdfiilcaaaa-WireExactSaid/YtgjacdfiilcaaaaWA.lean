import Derived.Test.YtgjacdfiilcaaaaCC
import Derived.Test.YtgjacdfiilcaaaaWZ
set_option linter.unusedSimpArgs false
set_option linter.unusedVariables false
namespace Go.Proofs.Ytgjacdfiilcaaaa.CA
open Go Go.Proofs.YtgjacdfiilcaaaaR Go.Proofs.Ytgjacdfiilcaaaa.IW Go.Proofs.Ytgjacdfiilcaaaa.CZ Go.Proofs.Ytgjacdfiilcaaaa.WZ
set_option maxRecDepth 100000
set_option maxHeartbeats 4000000
theorem u64w (n : Int) : IntKind.u64.wrap n = n % 18446744073709551616 := by
  simp [IntKind.wrap, IntKind.signed, IntKind.bits]
theorem or_add (x c : Int) (hx : 0 ≤ x ∧ x < 72057594037927936) (hc : 0 ≤ c ∧ c ≤ 255) : Go.bits .or .u64 (IntKind.u64.wrap (x * 256)) (IntKind.u64.wrap c) = x * 256 + c := by
  rw [u64w, u64w, show x * 256 % 18446744073709551616 = x * 256 from by omega, show c % 18446744073709551616 = c from by omega]
  obtain ⟨a, rfl⟩ := Int.eq_ofNat_of_zero_le hx.1
  obtain ⟨b, rfl⟩ := Int.eq_ofNat_of_zero_le hc.1
  have e : ((a : Int) * 256) = ((a * 256 : Nat) : Int) := by omega
  rw [e, u64_or_nat (a * 256) b (by omega) (by omega)]
  have := Nat.shiftLeft_add_eq_or_of_lt (b := b) (i := 8) (by omega) a
  rw [Nat.shiftLeft_eq] at this
  rw [show a * 256 = a * 2 ^ 8 from rfl, ← this]
  omega
theorem e48 (N d : Nat) (s : Int) : TT N (d + 1) 48 [iV s] = some (bV (decide (s = 1 ∨ s = 2 ∨ s = 4 ∨ s = 8)), []) := by
  rw [t48, F_ev rfl]
  simp only [j48, b48, q48, qq, ww, List.append_nil, List.all_nil, List.all_cons, true_or, or_true, false_or, or_false, List.contains_nil, List.isEmpty_nil, List.take_length, List.getElem?_cons_zero, List.getElem?_cons_succ, List.set_cons_zero, List.set_cons_succ, List.replicate, Option.isNone_none, List.map_append, List.length_append, List.all_nil, List.contains_cons, Nat.reduceBEq, List.map_cons, List.map_nil, List.cons_append, List.nil_append, Option.getD_some, Option.getD_none, Option.map_some, Option.map_none, Option.bind_some, Nat.reduceAdd, Nat.reduceMul, Nat.reduceDiv, Nat.reduceEqDiff, Nat.reduceLeDiff, Nat.reduceLT, Int.reduceEq, Int.reduceNe, Int.reduceLT, Int.reduceLE, Int.reduceAdd, Int.reduceSub, Int.reduceMul, Int.reduceNeg, Int.reduceToNat, Int.reducePow, Nat.reducePow, not_false_eq_true, not_true_eq_false, reduceCtorEq, reduceIte, if_true, if_false, Bool.true_eq_false, Bool.false_eq_true, List.length_cons, List.length_nil, and_self, true_and, and_true, List.drop_zero, List.take_succ_cons, List.take_zero, List.drop_succ_cons]
  repeat' (refine fin_cases (fun h1 => ?_) (fun h1 => ?_) <;> simp only [h1, j48, b48, q48, qq, ww, List.append_nil, List.all_nil, List.all_cons, true_or, or_true, false_or, or_false, List.contains_nil, List.isEmpty_nil, List.take_length, List.getElem?_cons_zero, List.getElem?_cons_succ, List.set_cons_zero, List.set_cons_succ, List.replicate, Option.isNone_none, List.map_append, List.length_append, List.all_nil, List.contains_cons, Nat.reduceBEq, List.map_cons, List.map_nil, List.cons_append, List.nil_append, Option.getD_some, Option.getD_none, Option.map_some, Option.map_none, Option.bind_some, Nat.reduceAdd, Nat.reduceMul, Nat.reduceDiv, Nat.reduceEqDiff, Nat.reduceLeDiff, Nat.reduceLT, Int.reduceEq, Int.reduceNe, Int.reduceLT, Int.reduceLE, Int.reduceAdd, Int.reduceSub, Int.reduceMul, Int.reduceNeg, Int.reduceToNat, Int.reducePow, Nat.reducePow, not_false_eq_true, not_true_eq_false, reduceCtorEq, reduceIte, if_true, if_false, Bool.true_eq_false, Bool.false_eq_true, List.length_cons, List.length_nil, and_self, true_and, and_true, List.drop_zero, List.take_succ_cons, List.take_zero, List.drop_succ_cons])
  all_goals (first | (simp_all; done) | (simp_all; omega) | grind)
theorem e49 (N d : Nat) (b : List Int) (at_ s : Int) (hl : b.length < 1000000) (hs : 0 ≤ s ∧ s < 1000000) : TT N (d + 1) 49 [.one (rU b), iV at_, iV s] = some (bV (decide (0 ≤ at_ ∧ at_ ≤ (b.length : Int) - s)), []) := by
  have hw : IntKind.i64.wrap ((b.length : Int) - s) = (b.length : Int) - s := IntWalk.i64_in _ (by omega)
  rw [t49, F_ev rfl]
  simp only [hw, List.length_map, j49, b49, q49, qq, ww, List.append_nil, List.all_nil, List.all_cons, true_or, or_true, false_or, or_false, List.contains_nil, List.isEmpty_nil, List.take_length, List.getElem?_cons_zero, List.getElem?_cons_succ, List.set_cons_zero, List.set_cons_succ, List.replicate, Option.isNone_none, List.map_append, List.length_append, List.all_nil, List.contains_cons, Nat.reduceBEq, List.map_cons, List.map_nil, List.cons_append, List.nil_append, Option.getD_some, Option.getD_none, Option.map_some, Option.map_none, Option.bind_some, Nat.reduceAdd, Nat.reduceMul, Nat.reduceDiv, Nat.reduceEqDiff, Nat.reduceLeDiff, Nat.reduceLT, Int.reduceEq, Int.reduceNe, Int.reduceLT, Int.reduceLE, Int.reduceAdd, Int.reduceSub, Int.reduceMul, Int.reduceNeg, Int.reduceToNat, Int.reducePow, Nat.reducePow, not_false_eq_true, not_true_eq_false, reduceCtorEq, reduceIte, if_true, if_false, Bool.true_eq_false, Bool.false_eq_true, List.length_cons, List.length_nil, and_self, true_and, and_true, List.drop_zero, List.take_succ_cons, List.take_zero, List.drop_succ_cons]
  repeat' (refine fin_cases (fun h1 => ?_) (fun h1 => ?_) <;> simp only [h1, hw, List.length_map, j49, b49, q49, qq, ww, List.append_nil, List.all_nil, List.all_cons, true_or, or_true, false_or, or_false, List.contains_nil, List.isEmpty_nil, List.take_length, List.getElem?_cons_zero, List.getElem?_cons_succ, List.set_cons_zero, List.set_cons_succ, List.replicate, Option.isNone_none, List.map_append, List.length_append, List.all_nil, List.contains_cons, Nat.reduceBEq, List.map_cons, List.map_nil, List.cons_append, List.nil_append, Option.getD_some, Option.getD_none, Option.map_some, Option.map_none, Option.bind_some, Nat.reduceAdd, Nat.reduceMul, Nat.reduceDiv, Nat.reduceEqDiff, Nat.reduceLeDiff, Nat.reduceLT, Int.reduceEq, Int.reduceNe, Int.reduceLT, Int.reduceLE, Int.reduceAdd, Int.reduceSub, Int.reduceMul, Int.reduceNeg, Int.reduceToNat, Int.reducePow, Nat.reducePow, not_false_eq_true, not_true_eq_false, reduceCtorEq, reduceIte, if_true, if_false, Bool.true_eq_false, Bool.false_eq_true, List.length_cons, List.length_nil, and_self, true_and, and_true, List.drop_zero, List.take_succ_cons, List.take_zero, List.drop_succ_cons])
  all_goals (first | (simp_all; done) | (simp_all; omega) | grind)
/-- What Get tells of what is there from a place on. -/
def getA (r : List Int) (at_ : Nat) (s : Nat) : List S := if r.length < s then [iV 0, iV 0, iV 2] else if 4611686018427387904 ≤ beV (r.take s) then [iV 0, iV 0, iV 1] else [iV (beV (r.take s)), iV ((at_ + s : Nat) : Int), iV 0]
theorem pow_mono8 {j : Nat} (h : j ≤ 7) : (256 : Int) ^ j ≤ 72057594037927936 := by
  match j, h with
  | 0, _ | 1, _ | 2, _ | 3, _ | 4, _ | 5, _ | 6, _ | 7, _ => decide
theorem beV_take {q : List Int} {j : Nat} (h : j < q.length) : beV (q.take (j + 1)) = beV (q.take j) * 256 + q[j] := by
  rw [show q.take (j + 1) = q.take j ++ [q[j]] by simp, beV_app]
theorem cutM (l : List Int) (a s : Nat) (hs : 0 < s) : (List.drop a (List.take (a + s) (l.map eU))) = ((l.drop a).take s).map eU := by
  rw [← List.map_take, ← List.map_drop, List.drop_take, show a + s - a = s by omega]
theorem e23 (N d : Nat) (b : List Int) (at_ s : Nat) (hb : Bs b) (hs : s = 1 ∨ s = 4 ∨ s = 8) (ha : at_ ≤ b.length) (hN : 8 < N) (hl : b.length < 1000000) : TT N (d + 2) 23 [.one (rU b), iV at_, iV s] = some (.tup (getA (b.drop at_) at_ s), []) := by
  have h48 := fun d => e48 N d (s : Int)
  have h49 := fun d => e49 N d b at_ s hl (by omega)
  rw [show decide ((s : Int) = 1 ∨ (s : Int) = 2 ∨ (s : Int) = 4 ∨ (s : Int) = 8) = true by simp; omega] at h48
  rw [t23, F_ev rfl]
  by_cases hlt : b.length < at_ + s
  · have h2 : decide (0 ≤ (at_ : Int) ∧ (at_ : Int) ≤ (b.length : Int) - (s : Int)) = false := by simp; omega
    rw [h2] at h49
    simp only [h48, h49, j23, b23, q23, qq, ww, List.append_nil, List.all_nil, List.all_cons, true_or, or_true, false_or, or_false, List.contains_nil, List.isEmpty_nil, List.take_length, List.getElem?_cons_zero, List.getElem?_cons_succ, List.set_cons_zero, List.set_cons_succ, List.replicate, Option.isNone_none, List.map_append, List.length_append, List.all_nil, List.contains_cons, Nat.reduceBEq, List.map_cons, List.map_nil, List.cons_append, List.nil_append, Option.getD_some, Option.getD_none, Option.map_some, Option.map_none, Option.bind_some, Nat.reduceAdd, Nat.reduceMul, Nat.reduceDiv, Nat.reduceEqDiff, Nat.reduceLeDiff, Nat.reduceLT, Int.reduceEq, Int.reduceNe, Int.reduceLT, Int.reduceLE, Int.reduceAdd, Int.reduceSub, Int.reduceMul, Int.reduceNeg, Int.reduceToNat, Int.reducePow, Nat.reducePow, not_false_eq_true, not_true_eq_false, reduceCtorEq, reduceIte, if_true, if_false, Bool.true_eq_false, Bool.false_eq_true, List.length_cons, List.length_nil, and_self, true_and, and_true, List.drop_zero, List.take_succ_cons, List.take_zero, List.drop_succ_cons]
    rw [getA, if_pos (by rw [List.length_drop]; omega)]
  · have h2 : decide (0 ≤ (at_ : Int) ∧ (at_ : Int) ≤ (b.length : Int) - (s : Int)) = true := by simp; omega
    rw [h2] at h49
    have hwa : IntKind.i64.wrap ((at_ : Int) + s) = ((at_ + s : Nat) : Int) := by rw [IntWalk.i64_in _ (by omega)]; omega
    have hc1 : (at_ : Int) ≤ ((at_ + s : Nat) : Int) := by omega
    have hc2 : ((at_ + s : Nat) : Int) ≤ (b.length : Int) := by omega
    have hc3 : ¬ (at_ : Int) = ((at_ + s : Nat) : Int) := by omega
    have hcm := cutM b at_ s (by omega)
    have hql : ((b.drop at_).take s).length = s := by rw [List.length_take, List.length_drop]; omega
    have hqB : Bs ((b.drop at_).take s) := Bs_take (Bs_drop hb _) _
    have hdl : ¬ (b.drop at_).length < s := by rw [List.length_drop]; omega
    rw [show getA (b.drop at_) at_ s = if 4611686018427387904 ≤ beV ((b.drop at_).take s) then [iV 0, iV 0, iV 1] else [iV (beV ((b.drop at_).take s)), iV ((at_ + s : Nat) : Int), iV 0] by rw [getA, if_neg hdl]]
    generalize (b.drop at_).take s = q at *
    simp only [h48, h49, hwa, hc1, hc2, hc3, allU, Int.toNat_natCast, hcm, hql, List.length_map, j23, b23, q23, qq, ww, List.append_nil, List.all_nil, List.all_cons, true_or, or_true, false_or, or_false, List.contains_nil, List.isEmpty_nil, List.take_length, List.getElem?_cons_zero, List.getElem?_cons_succ, List.set_cons_zero, List.set_cons_succ, List.replicate, Option.isNone_none, List.map_append, List.length_append, List.all_nil, List.contains_cons, Nat.reduceBEq, List.map_cons, List.map_nil, List.cons_append, List.nil_append, Option.getD_some, Option.getD_none, Option.map_some, Option.map_none, Option.bind_some, Nat.reduceAdd, Nat.reduceMul, Nat.reduceDiv, Nat.reduceEqDiff, Nat.reduceLeDiff, Nat.reduceLT, Int.reduceEq, Int.reduceNe, Int.reduceLT, Int.reduceLE, Int.reduceAdd, Int.reduceSub, Int.reduceMul, Int.reduceNeg, Int.reduceToNat, Int.reducePow, Nat.reducePow, not_false_eq_true, not_true_eq_false, reduceCtorEq, reduceIte, if_true, if_false, Bool.true_eq_false, Bool.false_eq_true, List.length_cons, List.length_nil, and_self, true_and, and_true, List.drop_zero, List.take_succ_cons, List.take_zero, List.drop_succ_cons]
    refine loopK (K := fun o => fin _ (aft _ _ _ o)) (fun j => ⟨[(1, iV at_), (2, iV s), (9, .one (.int .u64 (beV (q.take j)))), (27, .one (rU q)), (28, iV s), (29, iV j)], []⟩) (fun j => some (.tup (if 4611686018427387904 ≤ beV q then [iV 0, iV 0, iV 1] else [iV (beV q), iV ((at_ + s : Nat) : Int), iV 0]), [])) s ?hr s 0 N _ (by omega) (by omega) ?hk
    case hk => simp only [gcK, lowB, Nat.reduceLeDiff, Nat.reduceBEq, List.contains_nil, List.contains_cons, Bool.or_false, Bool.false_or, Bool.false_eq_true, if_false, Bool.true_and, Bool.and_true, pickL, look_hit, look_miss, look_end, slMent, hpMent, S.ment, S.ment.smt, ments, V.ment, List.append_nil, List.nil_append, List.cons_append, List.all_nil, List.all_cons, Option.isSome_some, Bool.and_self, if_true, reduceIte, Nat.reduceEqDiff, not_false_eq_true, reduceCtorEq, Nat.reduceMul, Nat.reduceAdd]; rfl
    case hr =>
      intro j n hj ih
      (try dsimp only)
      by_cases hjl : j < s
      · have g1 : decide ((j : Int) < (s : Int)) = true := by simp; omega
        have hg : (q.map eU)[j]? = some (eU (q[j]'(by omega))) := by simp [hql, hjl]
        have hbj : 0 ≤ (j : Int) ∧ (j : Int) < (s : Int) := by omega
        have hbv := beV_lt j (q.take j) (by rw [List.length_take]; omega) (Bs_take hqB j)
        have hp := pow_mono8 (j := j) (by omega)
        have ho := or_add (beV (q.take j)) (q[j]'(by omega)) (by omega) (hqB _ (List.getElem_mem (by omega)))
        have ht := beV_take (q := q) (j := j) (by omega)
        simp only [g1, hbj.1, hbj.2, hg, ho, wi j (by omega), hql, show IntKind.u64.bits = 64 from rfl, show (2 : Int) ^ 8 = 256 from rfl, List.length_map, j23, b23, q23, qq, ww, List.append_nil, List.all_nil, List.all_cons, true_or, or_true, false_or, or_false, List.contains_nil, List.isEmpty_nil, List.take_length, List.getElem?_cons_zero, List.getElem?_cons_succ, List.set_cons_zero, List.set_cons_succ, List.replicate, Option.isNone_none, List.map_append, List.length_append, List.all_nil, List.contains_cons, Nat.reduceBEq, List.map_cons, List.map_nil, List.cons_append, List.nil_append, Option.getD_some, Option.getD_none, Option.map_some, Option.map_none, Option.bind_some, Nat.reduceAdd, Nat.reduceMul, Nat.reduceDiv, Nat.reduceEqDiff, Nat.reduceLeDiff, Nat.reduceLT, Int.reduceEq, Int.reduceNe, Int.reduceLT, Int.reduceLE, Int.reduceAdd, Int.reduceSub, Int.reduceMul, Int.reduceNeg, Int.reduceToNat, Int.reducePow, Nat.reducePow, not_false_eq_true, not_true_eq_false, reduceCtorEq, reduceIte, if_true, if_false, Bool.true_eq_false, Bool.false_eq_true, List.length_cons, List.length_nil, and_self, true_and, and_true, List.drop_zero, List.take_succ_cons, List.take_zero, List.drop_succ_cons]
        exact ih hjl _ (by simp only [ht, gcK, lowB, Nat.reduceLeDiff, Nat.reduceBEq, List.contains_nil, List.contains_cons, Bool.or_false, Bool.false_or, Bool.false_eq_true, if_false, Bool.true_and, Bool.and_true, pickL, look_hit, look_miss, look_end, slMent, hpMent, S.ment, S.ment.smt, ments, V.ment, List.append_nil, List.nil_append, List.cons_append, List.all_nil, List.all_cons, Option.isSome_some, Bool.and_self, if_true, reduceIte, Nat.reduceEqDiff, not_false_eq_true, reduceCtorEq, Nat.reduceMul, Nat.reduceAdd])
      · obtain rfl : j = s := by omega
        have g1 : decide ((j : Int) < (j : Int)) = false := by simp
        have hqt : q.take j = q := List.take_of_length_le (by omega)
        have hbv := beV_lt j q hql hqB
        cases hc : decide (beV q ≥ 4611686018427387904) with
        | true =>
          simp only [g1, hqt, hc, j23, b23, q23, qq, ww, List.append_nil, List.all_nil, List.all_cons, true_or, or_true, false_or, or_false, List.contains_nil, List.isEmpty_nil, List.take_length, List.getElem?_cons_zero, List.getElem?_cons_succ, List.set_cons_zero, List.set_cons_succ, List.replicate, Option.isNone_none, List.map_append, List.length_append, List.all_nil, List.contains_cons, Nat.reduceBEq, List.map_cons, List.map_nil, List.cons_append, List.nil_append, Option.getD_some, Option.getD_none, Option.map_some, Option.map_none, Option.bind_some, Nat.reduceAdd, Nat.reduceMul, Nat.reduceDiv, Nat.reduceEqDiff, Nat.reduceLeDiff, Nat.reduceLT, Int.reduceEq, Int.reduceNe, Int.reduceLT, Int.reduceLE, Int.reduceAdd, Int.reduceSub, Int.reduceMul, Int.reduceNeg, Int.reduceToNat, Int.reducePow, Nat.reducePow, not_false_eq_true, not_true_eq_false, reduceCtorEq, reduceIte, if_true, if_false, Bool.true_eq_false, Bool.false_eq_true, List.length_cons, List.length_nil, and_self, true_and, and_true, List.drop_zero, List.take_succ_cons, List.take_zero, List.drop_succ_cons]
          rw [if_pos (by simpa using hc)]
        | false =>
          have hlt2 : beV q < 4611686018427387904 := by simp at hc; omega
          have hwq : IntKind.i64.wrap (beV q) = beV q := IntWalk.i64_in _ (by omega)
          simp only [g1, hqt, hc, hwq, hwa, j23, b23, q23, qq, ww, List.append_nil, List.all_nil, List.all_cons, true_or, or_true, false_or, or_false, List.contains_nil, List.isEmpty_nil, List.take_length, List.getElem?_cons_zero, List.getElem?_cons_succ, List.set_cons_zero, List.set_cons_succ, List.replicate, Option.isNone_none, List.map_append, List.length_append, List.all_nil, List.contains_cons, Nat.reduceBEq, List.map_cons, List.map_nil, List.cons_append, List.nil_append, Option.getD_some, Option.getD_none, Option.map_some, Option.map_none, Option.bind_some, Nat.reduceAdd, Nat.reduceMul, Nat.reduceDiv, Nat.reduceEqDiff, Nat.reduceLeDiff, Nat.reduceLT, Int.reduceEq, Int.reduceNe, Int.reduceLT, Int.reduceLE, Int.reduceAdd, Int.reduceSub, Int.reduceMul, Int.reduceNeg, Int.reduceToNat, Int.reducePow, Nat.reducePow, not_false_eq_true, not_true_eq_false, reduceCtorEq, reduceIte, if_true, if_false, Bool.true_eq_false, Bool.false_eq_true, List.length_cons, List.length_nil, and_self, true_and, and_true, List.drop_zero, List.take_succ_cons, List.take_zero, List.drop_succ_cons]
          rw [if_neg (by omega)]
end Go.Proofs.Ytgjacdfiilcaaaa.CA
