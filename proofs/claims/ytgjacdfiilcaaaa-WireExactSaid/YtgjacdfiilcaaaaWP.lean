import Derived.Test.YtgjacdfiilcaaaaWO
set_option linter.unusedSimpArgs false
set_option linter.unusedVariables false
namespace Go.Proofs.Ytgjacdfiilcaaaa.CA
open Go Go.Proofs.YtgjacdfiilcaaaaR Go.Proofs.Ytgjacdfiilcaaaa.IW Go.Proofs.Ytgjacdfiilcaaaa.CZ Go.Proofs.Ytgjacdfiilcaaaa.WZ
open Go.Proofs.Ytgjacdfiilcaaaa.MA (Mg eM aM msgOK)
set_option maxRecDepth 100000
set_option maxHeartbeats 4000000
/-- The number that bytes are, or too great a one. -/
def numB (b : List Int) : Int × Bool := if 4611686018427387904 ≤ beV b then (0, false) else (beV b, true)
theorem beV_tk (b : List Int) {i : Nat} (h : i < b.length) : beV (b.take (i + 1)) = beV (b.take i) * 256 + b[i] := by
  rw [show b.take (i + 1) = b.take i ++ [b[i]] by simp, beV_app]
theorem beV_le (b : List Int) (hb : Bs b) : ∀ k i, i + k = b.length → beV (b.take i) ≤ beV b ∧ (0 ≤ beV (b.take i))
  | 0, i, h => by
    rw [List.take_of_length_le (by omega)]
    exact ⟨Int.le_refl _, (beV_lt _ b rfl hb).1⟩
  | k + 1, i, h => by
    have h1 := beV_le b hb k (i + 1) (by omega)
    rw [beV_tk b (by omega)] at h1
    have h2 := hb b[i] (List.getElem_mem (by omega))
    have h3 := (beV_lt _ (b.take i) rfl (Bs_take hb i)).1
    omega
def zB (b : List Int) (i : Nat) : Int × Bool := if i = b.length then (beV b, true) else numB b
theorem e35 (N d : Nat) (b : List Int) (hb : Bs b) (hl : b.length ≤ 8) (hN : 8 < N) : TT N (d + 1) 35 [.one (rU b)] = some (.tup [iV (numB b).1, bV (numB b).2], []) := by
  rw [t35, F_ev rfl]
  simp only [j35, b35, q35, qq, ww, List.append_nil, List.all_nil, List.all_cons, true_or, or_true, false_or, or_false, List.contains_nil, List.isEmpty_nil, List.take_length, List.getElem?_cons_zero, List.getElem?_cons_succ, List.set_cons_zero, List.set_cons_succ, List.replicate, Option.isNone_none, List.map_append, List.length_append, List.all_nil, List.contains_cons, Nat.reduceBEq, List.map_cons, List.map_nil, List.cons_append, List.nil_append, Option.getD_some, Option.getD_none, Option.map_some, Option.map_none, Option.bind_some, Nat.reduceAdd, Nat.reduceMul, Nat.reduceDiv, Nat.reduceEqDiff, Nat.reduceLeDiff, Nat.reduceLT, Int.reduceEq, Int.reduceNe, Int.reduceLT, Int.reduceLE, Int.reduceAdd, Int.reduceSub, Int.reduceMul, Int.reduceNeg, Int.reduceToNat, Int.reducePow, Nat.reducePow, not_false_eq_true, not_true_eq_false, reduceCtorEq, reduceIte, if_true, if_false, Bool.true_eq_false, Bool.false_eq_true, List.length_cons, List.length_nil, and_self, true_and, and_true, List.drop_zero, List.take_succ_cons, List.take_zero, List.drop_succ_cons]
  refine (loopK (K := fun o => fin _ (aft _ _ _ o)) (fun i => ⟨[(0, .one (rU b)), (4, iV (beV (b.take i))), (5, iV i)], []⟩) (fun i => some (.tup [iV (zB b i).1, bV (zB b i).2], [])) b.length ?hr b.length 0 N _ (by omega) (by omega) ?hk).trans ?_
  case hk => simp only [gcK, lowB, Nat.reduceLeDiff, Nat.reduceBEq, List.contains_nil, List.contains_cons, Bool.or_false, Bool.false_or, Bool.false_eq_true, if_false, Bool.true_and, Bool.and_true, pickL, look_hit, look_miss, look_end, slMent, hpMent, S.ment, S.ment.smt, ments, V.ment, List.append_nil, List.nil_append, List.cons_append, List.all_nil, List.all_cons, Option.isSome_some, Bool.and_self, if_true, reduceIte, Nat.reduceEqDiff, not_false_eq_true, reduceCtorEq, Nat.reduceMul, Nat.reduceAdd]; rfl
  case hr =>
    intro i n hi ih
    (try dsimp only)
    have hle := beV_le b hb (b.length - i) i (by omega)
    by_cases hlt : i < b.length
    · have h1 : decide ((i : Int) < (b.length : Int)) = true := by simp; omega
      have hg : (b.map eU)[i]? = some (eU b[i]) := by simp [hlt]
      have hbi : 0 ≤ (i : Int) ∧ (i : Int) < (b.length : Int) := by omega
      have hc := hb b[i] (List.getElem_mem hlt)
      have hcw : IntKind.i64.wrap b[i] = b[i] := IntWalk.i64_in _ (by omega)
      have hs := beV_tk b hlt
      by_cases hbig : 18014398509481984 ≤ beV (b.take i)
      · have g1 : decide (18014398509481984 ≤ beV (b.take i)) = true := by simpa using hbig
        have hle2 := beV_le b hb (b.length - (i + 1)) (i + 1) (by omega)
        rw [show zB b i = (0, false) by rw [zB, if_neg (by omega), numB, if_pos (by omega)]]
        simp only [h1, g1, List.length_map, j35, b35, q35, qq, ww, List.append_nil, List.all_nil, List.all_cons, true_or, or_true, false_or, or_false, List.contains_nil, List.isEmpty_nil, List.take_length, List.getElem?_cons_zero, List.getElem?_cons_succ, List.set_cons_zero, List.set_cons_succ, List.replicate, Option.isNone_none, List.map_append, List.length_append, List.all_nil, List.contains_cons, Nat.reduceBEq, List.map_cons, List.map_nil, List.cons_append, List.nil_append, Option.getD_some, Option.getD_none, Option.map_some, Option.map_none, Option.bind_some, Nat.reduceAdd, Nat.reduceMul, Nat.reduceDiv, Nat.reduceEqDiff, Nat.reduceLeDiff, Nat.reduceLT, Int.reduceEq, Int.reduceNe, Int.reduceLT, Int.reduceLE, Int.reduceAdd, Int.reduceSub, Int.reduceMul, Int.reduceNeg, Int.reduceToNat, Int.reducePow, Nat.reducePow, not_false_eq_true, not_true_eq_false, reduceCtorEq, reduceIte, if_true, if_false, Bool.true_eq_false, Bool.false_eq_true, List.length_cons, List.length_nil, and_self, true_and, and_true, List.drop_zero, List.take_succ_cons, List.take_zero, List.drop_succ_cons]
      · have g1 : decide (18014398509481984 ≤ beV (b.take i)) = false := by simpa using hbig
        have w1 : IntKind.i64.wrap (256 * beV (b.take i)) = 256 * beV (b.take i) := IntWalk.i64_in _ (by omega)
        have w2 : IntKind.i64.wrap (256 * beV (b.take i) + b[i]) = beV (b.take (i + 1)) := by rw [IntWalk.i64_in _ (by omega)]; omega
        have hz : zB b i = zB b (i + 1) := by
          rw [zB, if_neg (by omega), zB]
          by_cases he : i + 1 = b.length
          · rw [if_pos he, numB, if_neg]
            have := hs
            rw [he, List.take_length] at this
            omega
          · rw [if_neg he]
        rw [hz]
        simp only [h1, g1, w1, w2, hg, hcw, hbi.1, hbi.2, wi i (by omega), List.length_map, Int.toNat_natCast, j35, b35, q35, qq, ww, List.append_nil, List.all_nil, List.all_cons, true_or, or_true, false_or, or_false, List.contains_nil, List.isEmpty_nil, List.take_length, List.getElem?_cons_zero, List.getElem?_cons_succ, List.set_cons_zero, List.set_cons_succ, List.replicate, Option.isNone_none, List.map_append, List.length_append, List.all_nil, List.contains_cons, Nat.reduceBEq, List.map_cons, List.map_nil, List.cons_append, List.nil_append, Option.getD_some, Option.getD_none, Option.map_some, Option.map_none, Option.bind_some, Nat.reduceAdd, Nat.reduceMul, Nat.reduceDiv, Nat.reduceEqDiff, Nat.reduceLeDiff, Nat.reduceLT, Int.reduceEq, Int.reduceNe, Int.reduceLT, Int.reduceLE, Int.reduceAdd, Int.reduceSub, Int.reduceMul, Int.reduceNeg, Int.reduceToNat, Int.reducePow, Nat.reducePow, not_false_eq_true, not_true_eq_false, reduceCtorEq, reduceIte, if_true, if_false, Bool.true_eq_false, Bool.false_eq_true, List.length_cons, List.length_nil, and_self, true_and, and_true, List.drop_zero, List.take_succ_cons, List.take_zero, List.drop_succ_cons]
        exact ih hlt _ (by simp only [gcK, lowB, Nat.reduceLeDiff, Nat.reduceBEq, List.contains_nil, List.contains_cons, Bool.or_false, Bool.false_or, Bool.false_eq_true, if_false, Bool.true_and, Bool.and_true, pickL, look_hit, look_miss, look_end, slMent, hpMent, S.ment, S.ment.smt, ments, V.ment, List.append_nil, List.nil_append, List.cons_append, List.all_nil, List.all_cons, Option.isSome_some, Bool.and_self, if_true, reduceIte, Nat.reduceEqDiff, not_false_eq_true, reduceCtorEq, Nat.reduceMul, Nat.reduceAdd])
    · obtain rfl : i = b.length := by omega
      have h1 : decide ((b.length : Int) < (b.length : Int)) = false := by simp
      rw [List.take_length, zB, if_pos rfl]
      simp only [h1, List.length_map, j35, b35, q35, qq, ww, List.append_nil, List.all_nil, List.all_cons, true_or, or_true, false_or, or_false, List.contains_nil, List.isEmpty_nil, List.take_length, List.getElem?_cons_zero, List.getElem?_cons_succ, List.set_cons_zero, List.set_cons_succ, List.replicate, Option.isNone_none, List.map_append, List.length_append, List.all_nil, List.contains_cons, Nat.reduceBEq, List.map_cons, List.map_nil, List.cons_append, List.nil_append, Option.getD_some, Option.getD_none, Option.map_some, Option.map_none, Option.bind_some, Nat.reduceAdd, Nat.reduceMul, Nat.reduceDiv, Nat.reduceEqDiff, Nat.reduceLeDiff, Nat.reduceLT, Int.reduceEq, Int.reduceNe, Int.reduceLT, Int.reduceLE, Int.reduceAdd, Int.reduceSub, Int.reduceMul, Int.reduceNeg, Int.reduceToNat, Int.reducePow, Nat.reducePow, not_false_eq_true, not_true_eq_false, reduceCtorEq, reduceIte, if_true, if_false, Bool.true_eq_false, Bool.false_eq_true, List.length_cons, List.length_nil, and_self, true_and, and_true, List.drop_zero, List.take_succ_cons, List.take_zero, List.drop_succ_cons]
  by_cases h0 : b.length = 0
  · obtain rfl := List.eq_nil_of_length_eq_zero h0
    rfl
  · rw [zB, if_neg (by omega)]
end Go.Proofs.Ytgjacdfiilcaaaa.CA
