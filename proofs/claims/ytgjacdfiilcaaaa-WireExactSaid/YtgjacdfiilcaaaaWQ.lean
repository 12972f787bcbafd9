import Derived.Test.YtgjacdfiilcaaaaWP
set_option linter.unusedSimpArgs false
set_option linter.unusedVariables false
namespace Go.Proofs.Ytgjacdfiilcaaaa.CA
open Go Go.Proofs.YtgjacdfiilcaaaaR Go.Proofs.Ytgjacdfiilcaaaa.IW Go.Proofs.Ytgjacdfiilcaaaa.CZ Go.Proofs.Ytgjacdfiilcaaaa.WZ
open Go.Proofs.Ytgjacdfiilcaaaa.MA (Mg eM aM msgOK)
set_option maxRecDepth 100000
set_option maxHeartbeats 4000000
theorem e56 (N d : Nat) (b : List Int) (at_ n : Nat) (hl : b.length < 1000000) (hn : n < 1000) : TT N (d + 2) 56 [.one (rU b), iV at_, iV n] = some (bV (decide (at_ + n ≤ b.length)), []) := by
  have h38 : ∀ d, TT N (d + 1) 38 [iV at_, iV 0, iV b.length] = some (bV (decide (at_ ≤ b.length)), []) := fun d => by
    rw [MA.e38, MA.inB]
    congr 3
    simp
  rw [t56, F_ev rfl]
  by_cases ha : at_ ≤ b.length
  · have g1 : decide (at_ ≤ b.length) = true := decide_eq_true ha
    have hw : IntKind.i64.wrap ((b.length : Int) - (at_ : Int)) = (b.length : Int) - (at_ : Int) := IntWalk.i64_in _ (by omega)
    have g2 : decide ((n : Int) ≤ (b.length : Int) - (at_ : Int)) = decide (at_ + n ≤ b.length) := decide_eq_decide.2 (by omega)
    simp only [h38, g1, hw, g2, List.length_map, j56, b56, q56, qq, ww, List.append_nil, List.all_nil, List.all_cons, true_or, or_true, false_or, or_false, List.contains_nil, List.isEmpty_nil, List.take_length, List.getElem?_cons_zero, List.getElem?_cons_succ, List.set_cons_zero, List.set_cons_succ, List.replicate, Option.isNone_none, List.map_append, List.length_append, List.all_nil, List.contains_cons, Nat.reduceBEq, List.map_cons, List.map_nil, List.cons_append, List.nil_append, Option.getD_some, Option.getD_none, Option.map_some, Option.map_none, Option.bind_some, Nat.reduceAdd, Nat.reduceMul, Nat.reduceDiv, Nat.reduceEqDiff, Nat.reduceLeDiff, Nat.reduceLT, Int.reduceEq, Int.reduceNe, Int.reduceLT, Int.reduceLE, Int.reduceAdd, Int.reduceSub, Int.reduceMul, Int.reduceNeg, Int.reduceToNat, Int.reducePow, Nat.reducePow, not_false_eq_true, not_true_eq_false, reduceCtorEq, reduceIte, if_true, if_false, Bool.true_eq_false, Bool.false_eq_true, List.length_cons, List.length_nil, and_self, true_and, and_true, List.drop_zero, List.take_succ_cons, List.take_zero, List.drop_succ_cons]
  · have g1 : decide (at_ ≤ b.length) = false := decide_eq_false ha
    have g2 : decide (at_ + n ≤ b.length) = false := decide_eq_false (by omega)
    simp only [h38, g1, g2, List.length_map, j56, b56, q56, qq, ww, List.append_nil, List.all_nil, List.all_cons, true_or, or_true, false_or, or_false, List.contains_nil, List.isEmpty_nil, List.take_length, List.getElem?_cons_zero, List.getElem?_cons_succ, List.set_cons_zero, List.set_cons_succ, List.replicate, Option.isNone_none, List.map_append, List.length_append, List.all_nil, List.contains_cons, Nat.reduceBEq, List.map_cons, List.map_nil, List.cons_append, List.nil_append, Option.getD_some, Option.getD_none, Option.map_some, Option.map_none, Option.bind_some, Nat.reduceAdd, Nat.reduceMul, Nat.reduceDiv, Nat.reduceEqDiff, Nat.reduceLeDiff, Nat.reduceLT, Int.reduceEq, Int.reduceNe, Int.reduceLT, Int.reduceLE, Int.reduceAdd, Int.reduceSub, Int.reduceMul, Int.reduceNeg, Int.reduceToNat, Int.reducePow, Nat.reducePow, not_false_eq_true, not_true_eq_false, reduceCtorEq, reduceIte, if_true, if_false, Bool.true_eq_false, Bool.false_eq_true, List.length_cons, List.length_nil, and_self, true_and, and_true, List.drop_zero, List.take_succ_cons, List.take_zero, List.drop_succ_cons]
def intA (at_ : Nat) : Option (List Int × List Int) → Option (S × Hp)
  | none => some (.tup [.one (.sl 0 0 0), iV (-1)], [(0, .rows 3 1 [])])
  | some (l, _) => some (.tup [.one (.sl 0 0 l.length), iV ((at_ + 1 + l.length : Nat) : Int)], [(0, .rows 3 1 (l.map eI))])
theorem e36n (N d : Nat) (b : List Int) : TT N (d + 3) 36 [.one (rU b), iV (-1)] = some (.tup [.one (.sl 0 0 0), iV (-1)], [(0, .rows 3 1 [])]) := by
  have g1 : decide ((-1 : Int) < 0) = true := by decide
  rw [t36, F_ev rfl]
  simp only [g1, List.length_map, j36, b36, q36, qq, ww, List.append_nil, List.all_nil, List.all_cons, true_or, or_true, false_or, or_false, List.contains_nil, List.isEmpty_nil, List.take_length, List.getElem?_cons_zero, List.getElem?_cons_succ, List.set_cons_zero, List.set_cons_succ, List.replicate, Option.isNone_none, List.map_append, List.length_append, List.all_nil, List.contains_cons, Nat.reduceBEq, List.map_cons, List.map_nil, List.cons_append, List.nil_append, Option.getD_some, Option.getD_none, Option.map_some, Option.map_none, Option.bind_some, Nat.reduceAdd, Nat.reduceMul, Nat.reduceDiv, Nat.reduceEqDiff, Nat.reduceLeDiff, Nat.reduceLT, Int.reduceEq, Int.reduceNe, Int.reduceLT, Int.reduceLE, Int.reduceAdd, Int.reduceSub, Int.reduceMul, Int.reduceNeg, Int.reduceToNat, Int.reducePow, Nat.reducePow, not_false_eq_true, not_true_eq_false, reduceCtorEq, reduceIte, if_true, if_false, Bool.true_eq_false, Bool.false_eq_true, List.length_cons, List.length_nil, and_self, true_and, and_true, List.drop_zero, List.take_succ_cons, List.take_zero, List.drop_succ_cons]
theorem e36 (N d : Nat) (b : List Int) (at_ : Nat) (hb : Bs b) (hl : b.length < 1000) (ha : at_ < 1000) (hN : 1000 < N) : TT N (d + 3) 36 [.one (rU b), iV at_] = intA at_ (decL (b.drop at_)) := by
  have g0 : decide ((at_ : Int) < 0) = false := by simp
  rw [t36, F_ev rfl]
  by_cases hlt : at_ < b.length
  · have g1 : decide ((b.length : Int) ≤ (at_ : Int)) = false := by simp; omega
    have hba : 0 ≤ (at_ : Int) ∧ (at_ : Int) < (b.length : Int) := by omega
    have hc := hb b[at_] (List.getElem_mem hlt)
    have hg : (b.map eU)[at_]? = some (eU b[at_]) := by simp [hlt]
    have hwc := w64u8 hc
    have hw1 := wi at_ (by omega)
    have hdr : b.drop at_ = b[at_] :: b.drop (at_ + 1) := by simp
    obtain ⟨n, hn⟩ := Int.eq_ofNat_of_zero_le hc.1
    rw [hn] at hwc hc hg
    have h56 := fun d => e56 N d b (at_ + 1) n (by omega) (by omega)
    rw [hdr, hn, decL]
    by_cases hr : (b.drop (at_ + 1)).length < n
    · rw [if_pos (by omega)]
      have g2 : decide (at_ + 1 + n ≤ b.length) = false := by rw [List.length_drop] at hr; simp; omega
      rw [g2] at h56
      simp only [g0, g1, h56, hba.1, hba.2, hg, hwc, hw1, List.length_map, Int.toNat_natCast, Bool.not_false, Bool.not_true, j36, b36, q36, qq, ww, List.append_nil, List.all_nil, List.all_cons, true_or, or_true, false_or, or_false, List.contains_nil, List.isEmpty_nil, List.take_length, List.getElem?_cons_zero, List.getElem?_cons_succ, List.set_cons_zero, List.set_cons_succ, List.replicate, Option.isNone_none, List.map_append, List.length_append, List.all_nil, List.contains_cons, Nat.reduceBEq, List.map_cons, List.map_nil, List.cons_append, List.nil_append, Option.getD_some, Option.getD_none, Option.map_some, Option.map_none, Option.bind_some, Nat.reduceAdd, Nat.reduceMul, Nat.reduceDiv, Nat.reduceEqDiff, Nat.reduceLeDiff, Nat.reduceLT, Int.reduceEq, Int.reduceNe, Int.reduceLT, Int.reduceLE, Int.reduceAdd, Int.reduceSub, Int.reduceMul, Int.reduceNeg, Int.reduceToNat, Int.reducePow, Nat.reducePow, not_false_eq_true, not_true_eq_false, reduceCtorEq, reduceIte, if_true, if_false, Bool.true_eq_false, Bool.false_eq_true, List.length_cons, List.length_nil, and_self, true_and, and_true, List.drop_zero, List.take_succ_cons, List.take_zero, List.drop_succ_cons]
      rfl
    · rw [if_neg (by omega)]
      have g2 : decide (at_ + 1 + n ≤ b.length) = true := by rw [List.length_drop] at hr; simp; omega
      rw [g2] at h56
      have hle : at_ + 1 + n ≤ b.length := by simpa using g2
      have hwn : IntKind.i64.wrap (((at_ + 1 : Nat) : Int) + (n : Int)) = ((at_ + 1 + n : Nat) : Int) := by rw [IntWalk.i64_in _ (by omega)]; omega
      obtain ⟨q, hq⟩ : ∃ q, q = (b.drop (at_ + 1)).take n := ⟨_, rfl⟩
      have hql : q.length = n := by rw [hq, List.length_take, List.length_drop]; omega
      have hqB : Bs q := by rw [hq]; exact Bs_take (Bs_drop hb _) _
      have hqg : ∀ j (h : j < n), (b.map eU)[at_ + 1 + j]? = some (eU (q[j]'(by omega))) := fun j h => by
        subst hq
        simp [List.getElem?_map, List.getElem?_eq_getElem (show at_ + 1 + j < b.length by omega)]
      rw [Int.toNat_natCast, ← hq]
      show _ = some (S.tup [.one (.sl 0 0 q.length), iV ((at_ + 1 + q.length : Nat) : Int)], [(0, Blk.rows 3 1 (q.map eI))])
      rw [hql]
      simp only [g0, g1, h56, hba.1, hba.2, hg, hwc, hw1, List.length_map, Int.toNat_natCast, Bool.not_false, Bool.not_true, j36, b36, q36, qq, ww, List.append_nil, List.all_nil, List.all_cons, true_or, or_true, false_or, or_false, List.contains_nil, List.isEmpty_nil, List.take_length, List.getElem?_cons_zero, List.getElem?_cons_succ, List.set_cons_zero, List.set_cons_succ, List.replicate, Option.isNone_none, List.map_append, List.length_append, List.all_nil, List.contains_cons, Nat.reduceBEq, List.map_cons, List.map_nil, List.cons_append, List.nil_append, Option.getD_some, Option.getD_none, Option.map_some, Option.map_none, Option.bind_some, Nat.reduceAdd, Nat.reduceMul, Nat.reduceDiv, Nat.reduceEqDiff, Nat.reduceLeDiff, Nat.reduceLT, Int.reduceEq, Int.reduceNe, Int.reduceLT, Int.reduceLE, Int.reduceAdd, Int.reduceSub, Int.reduceMul, Int.reduceNeg, Int.reduceToNat, Int.reducePow, Nat.reducePow, not_false_eq_true, not_true_eq_false, reduceCtorEq, reduceIte, if_true, if_false, Bool.true_eq_false, Bool.false_eq_true, List.length_cons, List.length_nil, and_self, true_and, and_true, List.drop_zero, List.take_succ_cons, List.take_zero, List.drop_succ_cons]
      refine loopK (K := fun o => fin _ (aft _ _ _ o)) (fun j => ⟨[(0, .one (rU b)), (1, iV at_), (6, .one (.sl 384 0 j)), (7, iV j)], [(384, .rows 3 1 ((q.take j).map eI))]⟩) (fun j => some (.tup [.one (.sl 0 0 n), iV ((at_ + 1 + n : Nat) : Int)], [(0, .rows 3 1 (q.map eI))])) n ?hr2 n 0 N _ (by omega) (by omega) ?hk2
      case hk2 => simp only [gcK, lowB, Nat.reduceLeDiff, Nat.reduceBEq, List.contains_nil, List.contains_cons, Bool.or_false, Bool.false_or, Bool.false_eq_true, if_false, Bool.true_and, Bool.and_true, pickL, look_hit, look_miss, look_end, slMent, hpMent, S.ment, S.ment.smt, ments, V.ment, List.append_nil, List.nil_append, List.cons_append, List.all_nil, List.all_cons, Option.isSome_some, Bool.and_self, if_true, reduceIte, Nat.reduceEqDiff, not_false_eq_true, reduceCtorEq, Nat.reduceMul, Nat.reduceAdd]; rfl
      case hr2 =>
        intro j k hj ih
        (try dsimp only)
        by_cases hjl : j < n
        · have g3 : decide ((j : Int) < (n : Int)) = true := by simp; omega
          have hgq := hqg j hjl
          have hwj : IntKind.i64.wrap (((at_ + 1 : Nat) : Int) + (j : Int)) = ((at_ + 1 + j : Nat) : Int) := by rw [IntWalk.i64_in _ (by omega)]; omega
          have hbj : 0 ≤ ((at_ + 1 + j : Nat) : Int) ∧ ((at_ + 1 + j : Nat) : Int) < (b.length : Int) := by omega
          have hwq := w64u8 (hqB (q[j]'(by omega)) (List.getElem_mem (by omega)))
          have htl : (q.take j).length = j := by rw [List.length_take]; omega
          have htk : List.take j ((q.take j).map eI) = (q.take j).map eI := List.take_of_length_le (by rw [List.length_map]; omega)
          have hts : (q.take (j + 1)).map eI = (q.take j).map eI ++ [eI (q[j]'(by omega))] := by rw [show q.take (j + 1) = q.take j ++ [q[j]'(by omega)] by simp, List.map_append]; rfl
          have hby : (j + 1) * 8 ≤ 140737488355328 := by omega
          simp only [g3, hba.1, hba.2, hg, hwc, hw1, hwj, hbj.1, hbj.2, hgq, hwq, htl, htk, hby, hql, wi j (by omega), List.length_map, Int.toNat_natCast, Nat.le_refl, BEq.rfl, j36, b36, q36, qq, ww, List.append_nil, List.all_nil, List.all_cons, true_or, or_true, false_or, or_false, List.contains_nil, List.isEmpty_nil, List.take_length, List.getElem?_cons_zero, List.getElem?_cons_succ, List.set_cons_zero, List.set_cons_succ, List.replicate, Option.isNone_none, List.map_append, List.length_append, List.all_nil, List.contains_cons, Nat.reduceBEq, List.map_cons, List.map_nil, List.cons_append, List.nil_append, Option.getD_some, Option.getD_none, Option.map_some, Option.map_none, Option.bind_some, Nat.reduceAdd, Nat.reduceMul, Nat.reduceDiv, Nat.reduceEqDiff, Nat.reduceLeDiff, Nat.reduceLT, Int.reduceEq, Int.reduceNe, Int.reduceLT, Int.reduceLE, Int.reduceAdd, Int.reduceSub, Int.reduceMul, Int.reduceNeg, Int.reduceToNat, Int.reducePow, Nat.reducePow, not_false_eq_true, not_true_eq_false, reduceCtorEq, reduceIte, if_true, if_false, Bool.true_eq_false, Bool.false_eq_true, List.length_cons, List.length_nil, and_self, true_and, and_true, List.drop_zero, List.take_succ_cons, List.take_zero, List.drop_succ_cons]
          exact ih hjl _ (by simp only [hts, gcK, lowB, Nat.reduceLeDiff, Nat.reduceBEq, List.contains_nil, List.contains_cons, Bool.or_false, Bool.false_or, Bool.false_eq_true, if_false, Bool.true_and, Bool.and_true, pickL, look_hit, look_miss, look_end, slMent, hpMent, S.ment, S.ment.smt, ments, V.ment, List.append_nil, List.nil_append, List.cons_append, List.all_nil, List.all_cons, Option.isSome_some, Bool.and_self, if_true, reduceIte, Nat.reduceEqDiff, not_false_eq_true, reduceCtorEq, Nat.reduceMul, Nat.reduceAdd])
        · obtain rfl : j = n := by omega
          have g3 : decide ((j : Int) < (j : Int)) = false := by simp
          have hqt : q.take j = q := List.take_of_length_le (by omega)
          have htk : List.take j (q.map eI) = q.map eI := List.take_of_length_le (by rw [List.length_map]; omega)
          simp only [g3, hba.1, hba.2, hg, hwc, hw1, hwn, hqt, htk, hql, List.length_map, Int.toNat_natCast, Nat.le_refl, j36, b36, q36, qq, ww, List.append_nil, List.all_nil, List.all_cons, true_or, or_true, false_or, or_false, List.contains_nil, List.isEmpty_nil, List.take_length, List.getElem?_cons_zero, List.getElem?_cons_succ, List.set_cons_zero, List.set_cons_succ, List.replicate, Option.isNone_none, List.map_append, List.length_append, List.all_nil, List.contains_cons, Nat.reduceBEq, List.map_cons, List.map_nil, List.cons_append, List.nil_append, Option.getD_some, Option.getD_none, Option.map_some, Option.map_none, Option.bind_some, Nat.reduceAdd, Nat.reduceMul, Nat.reduceDiv, Nat.reduceEqDiff, Nat.reduceLeDiff, Nat.reduceLT, Int.reduceEq, Int.reduceNe, Int.reduceLT, Int.reduceLE, Int.reduceAdd, Int.reduceSub, Int.reduceMul, Int.reduceNeg, Int.reduceToNat, Int.reducePow, Nat.reducePow, not_false_eq_true, not_true_eq_false, reduceCtorEq, reduceIte, if_true, if_false, Bool.true_eq_false, Bool.false_eq_true, List.length_cons, List.length_nil, and_self, true_and, and_true, List.drop_zero, List.take_succ_cons, List.take_zero, List.drop_succ_cons]
  · have g1 : decide ((b.length : Int) ≤ (at_ : Int)) = true := by simp; omega
    rw [List.drop_of_length_le (by omega)]
    simp only [g0, g1, List.length_map, j36, b36, q36, qq, ww, List.append_nil, List.all_nil, List.all_cons, true_or, or_true, false_or, or_false, List.contains_nil, List.isEmpty_nil, List.take_length, List.getElem?_cons_zero, List.getElem?_cons_succ, List.set_cons_zero, List.set_cons_succ, List.replicate, Option.isNone_none, List.map_append, List.length_append, List.all_nil, List.contains_cons, Nat.reduceBEq, List.map_cons, List.map_nil, List.cons_append, List.nil_append, Option.getD_some, Option.getD_none, Option.map_some, Option.map_none, Option.bind_some, Nat.reduceAdd, Nat.reduceMul, Nat.reduceDiv, Nat.reduceEqDiff, Nat.reduceLeDiff, Nat.reduceLT, Int.reduceEq, Int.reduceNe, Int.reduceLT, Int.reduceLE, Int.reduceAdd, Int.reduceSub, Int.reduceMul, Int.reduceNeg, Int.reduceToNat, Int.reducePow, Nat.reducePow, not_false_eq_true, not_true_eq_false, reduceCtorEq, reduceIte, if_true, if_false, Bool.true_eq_false, Bool.false_eq_true, List.length_cons, List.length_nil, and_self, true_and, and_true, List.drop_zero, List.take_succ_cons, List.take_zero, List.drop_succ_cons]
    rfl
end Go.Proofs.Ytgjacdfiilcaaaa.CA
