import Derived.Test.YtgjacdfiilcaaaaWA
import Derived.Test.YtgjacdfiilcaaaaMD
set_option linter.unusedSimpArgs false
set_option linter.unusedVariables false
namespace Go.Proofs.Ytgjacdfiilcaaaa.CA
open Go Go.Proofs.YtgjacdfiilcaaaaR Go.Proofs.Ytgjacdfiilcaaaa.IW Go.Proofs.Ytgjacdfiilcaaaa.CZ Go.Proofs.Ytgjacdfiilcaaaa.WZ
set_option maxRecDepth 100000
set_option maxHeartbeats 4000000
/-- What GetList tells of what is there from a place on: the list, the next place, an error. -/
def lstA (at_ : Nat) : Option (List Int × List Int) → Option (S × Hp)
  | none => some (.tup [.one (.sl 0 0 0), iV 0, iV 2], [(0, .rows 3 1 [])])
  | some (l, _) => some (.tup [.one (.sl 0 0 l.length), iV ((at_ + 1 + l.length : Nat) : Int), iV 0], [(0, .rows 3 1 (l.map eI))])
theorem w64u8 {c : Int} (h : 0 ≤ c ∧ c ≤ 255) : IntKind.i64.wrap c = c := IntWalk.i64_in _ (by omega)
theorem e54 (N d : Nat) (b : List Int) (at_ : Nat) (hb : Bs b) (ha : at_ ≤ b.length) (hN : 256 < N) (hl : b.length < 1000000) : TT N (d + 2) 54 [.one (rU b), iV at_] = lstA at_ (decL (b.drop at_)) := by
  have h49 := fun d => e49 N d b at_ 1 hl (by omega)
  rw [t54, F_ev rfl]
  by_cases hlt : at_ < b.length
  · have h2 : decide (0 ≤ (at_ : Int) ∧ (at_ : Int) ≤ (b.length : Int) - 1) = true := by simp; omega
    rw [h2] at h49
    have hba : 0 ≤ (at_ : Int) ∧ (at_ : Int) < (b.length : Int) := by omega
    have hc := hb b[at_] (List.getElem_mem hlt)
    have hg : (b.map eU)[at_]? = some (eU b[at_]) := by simp [hlt]
    have hwc := w64u8 hc
    have hw1 := wi at_ (by omega)
    have hdr : b.drop at_ = b[at_] :: b.drop (at_ + 1) := by simp
    obtain ⟨n, hn⟩ := Int.eq_ofNat_of_zero_le hc.1
    rw [hn] at hwc hc hg
    have h49b := fun d => e49 N d b ((at_ + 1 : Nat) : Int) (n : Int) hl (by omega)
    rw [hdr, hn, decL]
    by_cases hr : (b.drop (at_ + 1)).length < n
    · rw [if_pos (by omega)]
      have h3 : decide (0 ≤ ((at_ + 1 : Nat) : Int) ∧ ((at_ + 1 : Nat) : Int) ≤ (b.length : Int) - (n : Int)) = false := by
        rw [List.length_drop] at hr; simp; omega
      rw [h3] at h49b
      simp only [h49, h49b, hba.1, hba.2, hg, hwc, hw1, List.length_map, Int.toNat_natCast, j54, b54, q54, qq, ww, List.append_nil, List.all_nil, List.all_cons, true_or, or_true, false_or, or_false, List.contains_nil, List.isEmpty_nil, List.take_length, List.getElem?_cons_zero, List.getElem?_cons_succ, List.set_cons_zero, List.set_cons_succ, List.replicate, Option.isNone_none, List.map_append, List.length_append, List.all_nil, List.contains_cons, Nat.reduceBEq, List.map_cons, List.map_nil, List.cons_append, List.nil_append, Option.getD_some, Option.getD_none, Option.map_some, Option.map_none, Option.bind_some, Nat.reduceAdd, Nat.reduceMul, Nat.reduceDiv, Nat.reduceEqDiff, Nat.reduceLeDiff, Nat.reduceLT, Int.reduceEq, Int.reduceNe, Int.reduceLT, Int.reduceLE, Int.reduceAdd, Int.reduceSub, Int.reduceMul, Int.reduceNeg, Int.reduceToNat, Int.reducePow, Nat.reducePow, not_false_eq_true, not_true_eq_false, reduceCtorEq, reduceIte, if_true, if_false, Bool.true_eq_false, Bool.false_eq_true, List.length_cons, List.length_nil, and_self, true_and, and_true, List.drop_zero, List.take_succ_cons, List.take_zero, List.drop_succ_cons]
      rfl
    · rw [if_neg (by omega)]
      have hr' : at_ + 1 + n ≤ b.length := by rw [List.length_drop] at hr; omega
      have h3 : decide (0 ≤ ((at_ + 1 : Nat) : Int) ∧ ((at_ + 1 : Nat) : Int) ≤ (b.length : Int) - (n : Int)) = true := by simp; omega
      rw [h3] at h49b
      have hwn : IntKind.i64.wrap (((at_ + 1 : Nat) : Int) + (n : Int)) = ((at_ + 1 + n : Nat) : Int) := by rw [IntWalk.i64_in _ (by omega)]; omega
      have hc1 : ((at_ + 1 : Nat) : Int) ≤ ((at_ + 1 + n : Nat) : Int) := by omega
      have hc0 : 0 ≤ ((at_ + 1 : Nat) : Int) := by omega
      have hc2 : ((at_ + 1 + n : Nat) : Int) ≤ (b.length : Int) := by omega
      have hql : ((b.drop (at_ + 1)).take n).length = n := by rw [List.length_take, List.length_drop]; omega
      have hqB : Bs ((b.drop (at_ + 1)).take n) := Bs_take (Bs_drop hb _) _
      have hcut : (if ((at_ + 1 : Nat) : Int) = ((at_ + 1 + n : Nat) : Int) then some (S.one (V.row []), ([] : Hp)) else some (S.one (V.row (List.drop (at_ + 1) (List.take (at_ + 1 + n) (b.map eU)))), [])) = some (S.one (rU ((b.drop (at_ + 1)).take n)), []) := by
        split
        · obtain rfl : n = 0 := by omega
          simp
        · rw [← List.map_take, ← List.map_drop, List.drop_take, show at_ + 1 + n - (at_ + 1) = n by omega]
      rw [Int.toNat_natCast]
      generalize (b.drop (at_ + 1)).take n = q at *
      show _ = some (S.tup [.one (.sl 0 0 q.length), iV ((at_ + 1 + q.length : Nat) : Int), iV 0], [(0, Blk.rows 3 1 (q.map eI))])
      rw [hql]
      simp only [h49, h49b, hba.1, hba.2, hg, hwc, hw1, hwn, hc0, hc1, hc2, hcut, allU, hql, List.length_map, Int.toNat_natCast, j54, b54, q54, qq, ww, List.append_nil, List.all_nil, List.all_cons, true_or, or_true, false_or, or_false, List.contains_nil, List.isEmpty_nil, List.take_length, List.getElem?_cons_zero, List.getElem?_cons_succ, List.set_cons_zero, List.set_cons_succ, List.replicate, Option.isNone_none, List.map_append, List.length_append, List.all_nil, List.contains_cons, Nat.reduceBEq, List.map_cons, List.map_nil, List.cons_append, List.nil_append, Option.getD_some, Option.getD_none, Option.map_some, Option.map_none, Option.bind_some, Nat.reduceAdd, Nat.reduceMul, Nat.reduceDiv, Nat.reduceEqDiff, Nat.reduceLeDiff, Nat.reduceLT, Int.reduceEq, Int.reduceNe, Int.reduceLT, Int.reduceLE, Int.reduceAdd, Int.reduceSub, Int.reduceMul, Int.reduceNeg, Int.reduceToNat, Int.reducePow, Nat.reducePow, not_false_eq_true, not_true_eq_false, reduceCtorEq, reduceIte, if_true, if_false, Bool.true_eq_false, Bool.false_eq_true, List.length_cons, List.length_nil, and_self, true_and, and_true, List.drop_zero, List.take_succ_cons, List.take_zero, List.drop_succ_cons]
      refine loopK (K := fun o => fin _ (aft _ _ _ o)) (fun j => ⟨[(4, .one (.sl 256 0 j)), (5, iV ((at_ + 1 + n : Nat) : Int)), (37, .one (rU q)), (38, iV n), (39, iV j)], [(256, .rows 3 1 ((q.take j).map eI))]⟩) (fun j => some (.tup [.one (.sl 0 0 n), iV ((at_ + 1 + n : Nat) : Int), iV 0], [(0, .rows 3 1 (q.map eI))])) n ?hr2 n 0 N _ (by omega) (by omega) ?hk2
      case hk2 => simp only [gcK, lowB, Nat.reduceLeDiff, Nat.reduceBEq, List.contains_nil, List.contains_cons, Bool.or_false, Bool.false_or, Bool.false_eq_true, if_false, Bool.true_and, Bool.and_true, pickL, look_hit, look_miss, look_end, slMent, hpMent, S.ment, S.ment.smt, ments, V.ment, List.append_nil, List.nil_append, List.cons_append, List.all_nil, List.all_cons, Option.isSome_some, Bool.and_self, if_true, reduceIte, Nat.reduceEqDiff, not_false_eq_true, reduceCtorEq, Nat.reduceMul, Nat.reduceAdd]; rfl
      case hr2 =>
        intro j k hj ih
        (try dsimp only)
        by_cases hjl : j < n
        · have g1 : decide ((j : Int) < (n : Int)) = true := by simp; omega
          have hgq : (q.map eU)[j]? = some (eU (q[j]'(by omega))) := by simp [hql, hjl]
          have hbj : 0 ≤ (j : Int) ∧ (j : Int) < (n : Int) := by omega
          have hwq := w64u8 (hqB (q[j]'(by omega)) (List.getElem_mem (by omega)))
          have htl : (q.take j).length = j := by rw [List.length_take]; omega
          have htk : List.take j ((q.take j).map eI) = (q.take j).map eI := List.take_of_length_le (by rw [List.length_map]; omega)
          have hts : (q.take (j + 1)).map eI = (q.take j).map eI ++ [eI (q[j]'(by omega))] := by rw [show q.take (j + 1) = q.take j ++ [q[j]'(by omega)] by simp, List.map_append]; rfl
          have hby : (j + 1) * 8 ≤ 140737488355328 := by omega
          have hle1 : (1 : Nat) ≤ 1 := Nat.le_refl 1
          simp only [g1, hbj.1, hbj.2, hgq, hwq, htl, htk, hby, hql, wi j (by omega), List.length_map, Int.toNat_natCast, Nat.le_refl, BEq.rfl, j54, b54, q54, qq, ww, List.append_nil, List.all_nil, List.all_cons, true_or, or_true, false_or, or_false, List.contains_nil, List.isEmpty_nil, List.take_length, List.getElem?_cons_zero, List.getElem?_cons_succ, List.set_cons_zero, List.set_cons_succ, List.replicate, Option.isNone_none, List.map_append, List.length_append, List.all_nil, List.contains_cons, Nat.reduceBEq, List.map_cons, List.map_nil, List.cons_append, List.nil_append, Option.getD_some, Option.getD_none, Option.map_some, Option.map_none, Option.bind_some, Nat.reduceAdd, Nat.reduceMul, Nat.reduceDiv, Nat.reduceEqDiff, Nat.reduceLeDiff, Nat.reduceLT, Int.reduceEq, Int.reduceNe, Int.reduceLT, Int.reduceLE, Int.reduceAdd, Int.reduceSub, Int.reduceMul, Int.reduceNeg, Int.reduceToNat, Int.reducePow, Nat.reducePow, not_false_eq_true, not_true_eq_false, reduceCtorEq, reduceIte, if_true, if_false, Bool.true_eq_false, Bool.false_eq_true, List.length_cons, List.length_nil, and_self, true_and, and_true, List.drop_zero, List.take_succ_cons, List.take_zero, List.drop_succ_cons]
          exact ih hjl _ (by simp only [hts, gcK, lowB, Nat.reduceLeDiff, Nat.reduceBEq, List.contains_nil, List.contains_cons, Bool.or_false, Bool.false_or, Bool.false_eq_true, if_false, Bool.true_and, Bool.and_true, pickL, look_hit, look_miss, look_end, slMent, hpMent, S.ment, S.ment.smt, ments, V.ment, List.append_nil, List.nil_append, List.cons_append, List.all_nil, List.all_cons, Option.isSome_some, Bool.and_self, if_true, reduceIte, Nat.reduceEqDiff, not_false_eq_true, reduceCtorEq, Nat.reduceMul, Nat.reduceAdd])
        · obtain rfl : j = n := by omega
          have g1 : decide ((j : Int) < (j : Int)) = false := by simp
          have hqt : q.take j = q := List.take_of_length_le (by omega)
          have htk : List.take j (q.map eI) = q.map eI := List.take_of_length_le (by rw [List.length_map]; omega)
          simp only [g1, hqt, htk, hql, List.length_map, Nat.le_refl, j54, b54, q54, qq, ww, List.append_nil, List.all_nil, List.all_cons, true_or, or_true, false_or, or_false, List.contains_nil, List.isEmpty_nil, List.take_length, List.getElem?_cons_zero, List.getElem?_cons_succ, List.set_cons_zero, List.set_cons_succ, List.replicate, Option.isNone_none, List.map_append, List.length_append, List.all_nil, List.contains_cons, Nat.reduceBEq, List.map_cons, List.map_nil, List.cons_append, List.nil_append, Option.getD_some, Option.getD_none, Option.map_some, Option.map_none, Option.bind_some, Nat.reduceAdd, Nat.reduceMul, Nat.reduceDiv, Nat.reduceEqDiff, Nat.reduceLeDiff, Nat.reduceLT, Int.reduceEq, Int.reduceNe, Int.reduceLT, Int.reduceLE, Int.reduceAdd, Int.reduceSub, Int.reduceMul, Int.reduceNeg, Int.reduceToNat, Int.reducePow, Nat.reducePow, not_false_eq_true, not_true_eq_false, reduceCtorEq, reduceIte, if_true, if_false, Bool.true_eq_false, Bool.false_eq_true, List.length_cons, List.length_nil, and_self, true_and, and_true, List.drop_zero, List.take_succ_cons, List.take_zero, List.drop_succ_cons]
  · obtain rfl : at_ = b.length := by omega
    have h2 : decide (0 ≤ (b.length : Int) ∧ (b.length : Int) ≤ (b.length : Int) - 1) = false := by simp; omega
    rw [h2] at h49
    simp only [h49, j54, b54, q54, qq, ww, List.append_nil, List.all_nil, List.all_cons, true_or, or_true, false_or, or_false, List.contains_nil, List.isEmpty_nil, List.take_length, List.getElem?_cons_zero, List.getElem?_cons_succ, List.set_cons_zero, List.set_cons_succ, List.replicate, Option.isNone_none, List.map_append, List.length_append, List.all_nil, List.contains_cons, Nat.reduceBEq, List.map_cons, List.map_nil, List.cons_append, List.nil_append, Option.getD_some, Option.getD_none, Option.map_some, Option.map_none, Option.bind_some, Nat.reduceAdd, Nat.reduceMul, Nat.reduceDiv, Nat.reduceEqDiff, Nat.reduceLeDiff, Nat.reduceLT, Int.reduceEq, Int.reduceNe, Int.reduceLT, Int.reduceLE, Int.reduceAdd, Int.reduceSub, Int.reduceMul, Int.reduceNeg, Int.reduceToNat, Int.reducePow, Nat.reducePow, not_false_eq_true, not_true_eq_false, reduceCtorEq, reduceIte, if_true, if_false, Bool.true_eq_false, Bool.false_eq_true, List.length_cons, List.length_nil, and_self, true_and, and_true, List.drop_zero, List.take_succ_cons, List.take_zero, List.drop_succ_cons]
    rw [List.drop_length]
    rfl
end Go.Proofs.Ytgjacdfiilcaaaa.CA
