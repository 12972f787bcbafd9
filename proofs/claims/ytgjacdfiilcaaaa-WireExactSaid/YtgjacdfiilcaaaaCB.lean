import Derived.Test.YtgjacdfiilcaaaaCA
set_option linter.unusedSimpArgs false
set_option linter.unusedVariables false
namespace Go.Proofs.Ytgjacdfiilcaaaa.CA
open Go Go.Proofs.YtgjacdfiilcaaaaR Go.Proofs.Ytgjacdfiilcaaaa.IW Go.Proofs.Ytgjacdfiilcaaaa.CZ
set_option maxRecDepth 100000
set_option maxHeartbeats 4000000
def tl (s : Int) : Nat → List (List V)
  | 0 => [eU 0, eU 0, eU 0, eU 0]
  | 1 => [eU (s % 256), eU 0, eU 0, eU 0]
  | 2 => [eU (s % 256), eU (s / 256 % 256), eU 0, eU 0]
  | 3 => [eU (s % 256), eU (s / 256 % 256), eU (s / 65536 % 256), eU 0]
  | _ => [eU (s % 256), eU (s / 256 % 256), eU (s / 65536 % 256), eU (s / 16777216 % 256)]
theorem w8 (n : Int) : IntKind.u8.wrap n = n % 256 := by simp only [IntKind.wrap, IntKind.bits, IntKind.signed]; simp
theorem e25 (N d : Nat) (s : Int) (hN : 8 < N) : TT N (d + 1) 25 [iV s] = some (.one (.sl 0 0 4), [(0, .rows 5 1 ((tailN s).map eU))]) := by
  rw [t25, F_ev rfl]
  simp only [List.length_map, j25, b25, q25, qq, ww, List.append_nil, List.all_nil, List.all_cons, true_or, or_true, false_or, or_false, List.contains_nil, List.isEmpty_nil, List.take_length, List.getElem?_cons_zero, List.getElem?_cons_succ, List.set_cons_zero, List.set_cons_succ, List.replicate, Option.isNone_none, List.map_append, List.length_append, List.all_nil, List.contains_cons, Nat.reduceBEq, List.map_cons, List.map_nil, List.cons_append, List.nil_append, Option.getD_some, Option.getD_none, Option.map_some, Option.map_none, Option.bind_some, Nat.reduceAdd, Nat.reduceMul, Nat.reduceDiv, Nat.reduceEqDiff, Nat.reduceLeDiff, Nat.reduceLT, Int.reduceEq, Int.reduceNe, Int.reduceLT, Int.reduceLE, Int.reduceAdd, Int.reduceSub, Int.reduceMul, Int.reduceNeg, Int.reduceToNat, Int.reducePow, Nat.reducePow, not_false_eq_true, not_true_eq_false, reduceCtorEq, reduceIte, if_true, if_false, Bool.true_eq_false, Bool.false_eq_true, List.length_cons, List.length_nil, and_self, true_and, and_true, List.drop_zero, List.take_succ_cons, List.take_zero, List.drop_succ_cons]
  refine loopK (K := fun o => fin _ (aft _ _ _ o)) (fun i => ⟨[(0, iV s), (3, .one (.sl 320 0 4)), (7, iV 4), (8, iV i)], [(320, .rows 5 1 (tl s i))]⟩) (fun i => some (.one (.sl 0 0 4), [(0, .rows 5 1 ((tailN s).map eU))])) 4 ?hr 4 0 N _ (by omega) (by omega) ?hk
  case hk => simp only [gcK, lowB, Nat.reduceLeDiff, Nat.reduceBEq, List.contains_nil, List.contains_cons, Bool.or_false, Bool.false_or, Bool.false_eq_true, if_false, Bool.true_and, Bool.and_true, pickL, look_hit, look_miss, look_end, slMent, hpMent, S.ment, S.ment.smt, ments, V.ment, List.append_nil, List.nil_append, List.cons_append, List.all_nil, List.all_cons, Option.isSome_some, Bool.and_self, if_true, reduceIte, Nat.reduceEqDiff, not_false_eq_true, reduceCtorEq, Nat.reduceMul, Nat.reduceAdd]; rfl
  case hr =>
    intro i n hi ih
    (try dsimp only)
    have q0 : IntKind.i64.wrap 0 = 0 := rfl
    have q8 : IntKind.i64.wrap 8 = 8 := rfl
    have q16 : IntKind.i64.wrap 16 = 16 := rfl
    have q24 : IntKind.i64.wrap 24 = 24 := rfl
    have qb : IntKind.i64.bits = 64 := rfl
    have hs2 := Int.ediv_one s
    match i, hi with
    | 0, _ =>
      simp only [tl, q0, q8, q16, q24, qb, w8, hs2, j25, b25, q25, qq, ww, List.append_nil, List.all_nil, List.all_cons, true_or, or_true, false_or, or_false, List.contains_nil, List.isEmpty_nil, List.take_length, List.getElem?_cons_zero, List.getElem?_cons_succ, List.set_cons_zero, List.set_cons_succ, List.replicate, Option.isNone_none, List.map_append, List.length_append, List.all_nil, List.contains_cons, Nat.reduceBEq, List.map_cons, List.map_nil, List.cons_append, List.nil_append, Option.getD_some, Option.getD_none, Option.map_some, Option.map_none, Option.bind_some, Nat.reduceAdd, Nat.reduceMul, Nat.reduceDiv, Nat.reduceEqDiff, Nat.reduceLeDiff, Nat.reduceLT, Int.reduceEq, Int.reduceNe, Int.reduceLT, Int.reduceLE, Int.reduceAdd, Int.reduceSub, Int.reduceMul, Int.reduceNeg, Int.reduceToNat, Int.reducePow, Nat.reducePow, not_false_eq_true, not_true_eq_false, reduceCtorEq, reduceIte, if_true, if_false, Bool.true_eq_false, Bool.false_eq_true, List.length_cons, List.length_nil, and_self, true_and, and_true, List.drop_zero, List.take_succ_cons, List.take_zero, List.drop_succ_cons]
      exact ih (by omega) _ (by simp only [gcK, lowB, Nat.reduceLeDiff, Nat.reduceBEq, List.contains_nil, List.contains_cons, Bool.or_false, Bool.false_or, Bool.false_eq_true, if_false, Bool.true_and, Bool.and_true, pickL, look_hit, look_miss, look_end, slMent, hpMent, S.ment, S.ment.smt, ments, V.ment, List.append_nil, List.nil_append, List.cons_append, List.all_nil, List.all_cons, Option.isSome_some, Bool.and_self, if_true, reduceIte, Nat.reduceEqDiff, not_false_eq_true, reduceCtorEq, Nat.reduceMul, Nat.reduceAdd]; rfl)
    | 1, _ =>
      simp only [tl, q0, q8, q16, q24, qb, w8, hs2, j25, b25, q25, qq, ww, List.append_nil, List.all_nil, List.all_cons, true_or, or_true, false_or, or_false, List.contains_nil, List.isEmpty_nil, List.take_length, List.getElem?_cons_zero, List.getElem?_cons_succ, List.set_cons_zero, List.set_cons_succ, List.replicate, Option.isNone_none, List.map_append, List.length_append, List.all_nil, List.contains_cons, Nat.reduceBEq, List.map_cons, List.map_nil, List.cons_append, List.nil_append, Option.getD_some, Option.getD_none, Option.map_some, Option.map_none, Option.bind_some, Nat.reduceAdd, Nat.reduceMul, Nat.reduceDiv, Nat.reduceEqDiff, Nat.reduceLeDiff, Nat.reduceLT, Int.reduceEq, Int.reduceNe, Int.reduceLT, Int.reduceLE, Int.reduceAdd, Int.reduceSub, Int.reduceMul, Int.reduceNeg, Int.reduceToNat, Int.reducePow, Nat.reducePow, not_false_eq_true, not_true_eq_false, reduceCtorEq, reduceIte, if_true, if_false, Bool.true_eq_false, Bool.false_eq_true, List.length_cons, List.length_nil, and_self, true_and, and_true, List.drop_zero, List.take_succ_cons, List.take_zero, List.drop_succ_cons]
      exact ih (by omega) _ (by simp only [gcK, lowB, Nat.reduceLeDiff, Nat.reduceBEq, List.contains_nil, List.contains_cons, Bool.or_false, Bool.false_or, Bool.false_eq_true, if_false, Bool.true_and, Bool.and_true, pickL, look_hit, look_miss, look_end, slMent, hpMent, S.ment, S.ment.smt, ments, V.ment, List.append_nil, List.nil_append, List.cons_append, List.all_nil, List.all_cons, Option.isSome_some, Bool.and_self, if_true, reduceIte, Nat.reduceEqDiff, not_false_eq_true, reduceCtorEq, Nat.reduceMul, Nat.reduceAdd]; rfl)
    | 2, _ =>
      simp only [tl, q0, q8, q16, q24, qb, w8, hs2, j25, b25, q25, qq, ww, List.append_nil, List.all_nil, List.all_cons, true_or, or_true, false_or, or_false, List.contains_nil, List.isEmpty_nil, List.take_length, List.getElem?_cons_zero, List.getElem?_cons_succ, List.set_cons_zero, List.set_cons_succ, List.replicate, Option.isNone_none, List.map_append, List.length_append, List.all_nil, List.contains_cons, Nat.reduceBEq, List.map_cons, List.map_nil, List.cons_append, List.nil_append, Option.getD_some, Option.getD_none, Option.map_some, Option.map_none, Option.bind_some, Nat.reduceAdd, Nat.reduceMul, Nat.reduceDiv, Nat.reduceEqDiff, Nat.reduceLeDiff, Nat.reduceLT, Int.reduceEq, Int.reduceNe, Int.reduceLT, Int.reduceLE, Int.reduceAdd, Int.reduceSub, Int.reduceMul, Int.reduceNeg, Int.reduceToNat, Int.reducePow, Nat.reducePow, not_false_eq_true, not_true_eq_false, reduceCtorEq, reduceIte, if_true, if_false, Bool.true_eq_false, Bool.false_eq_true, List.length_cons, List.length_nil, and_self, true_and, and_true, List.drop_zero, List.take_succ_cons, List.take_zero, List.drop_succ_cons]
      exact ih (by omega) _ (by simp only [gcK, lowB, Nat.reduceLeDiff, Nat.reduceBEq, List.contains_nil, List.contains_cons, Bool.or_false, Bool.false_or, Bool.false_eq_true, if_false, Bool.true_and, Bool.and_true, pickL, look_hit, look_miss, look_end, slMent, hpMent, S.ment, S.ment.smt, ments, V.ment, List.append_nil, List.nil_append, List.cons_append, List.all_nil, List.all_cons, Option.isSome_some, Bool.and_self, if_true, reduceIte, Nat.reduceEqDiff, not_false_eq_true, reduceCtorEq, Nat.reduceMul, Nat.reduceAdd]; rfl)
    | 3, _ =>
      simp only [tl, q0, q8, q16, q24, qb, w8, hs2, j25, b25, q25, qq, ww, List.append_nil, List.all_nil, List.all_cons, true_or, or_true, false_or, or_false, List.contains_nil, List.isEmpty_nil, List.take_length, List.getElem?_cons_zero, List.getElem?_cons_succ, List.set_cons_zero, List.set_cons_succ, List.replicate, Option.isNone_none, List.map_append, List.length_append, List.all_nil, List.contains_cons, Nat.reduceBEq, List.map_cons, List.map_nil, List.cons_append, List.nil_append, Option.getD_some, Option.getD_none, Option.map_some, Option.map_none, Option.bind_some, Nat.reduceAdd, Nat.reduceMul, Nat.reduceDiv, Nat.reduceEqDiff, Nat.reduceLeDiff, Nat.reduceLT, Int.reduceEq, Int.reduceNe, Int.reduceLT, Int.reduceLE, Int.reduceAdd, Int.reduceSub, Int.reduceMul, Int.reduceNeg, Int.reduceToNat, Int.reducePow, Nat.reducePow, not_false_eq_true, not_true_eq_false, reduceCtorEq, reduceIte, if_true, if_false, Bool.true_eq_false, Bool.false_eq_true, List.length_cons, List.length_nil, and_self, true_and, and_true, List.drop_zero, List.take_succ_cons, List.take_zero, List.drop_succ_cons]
      exact ih (by omega) _ (by simp only [gcK, lowB, Nat.reduceLeDiff, Nat.reduceBEq, List.contains_nil, List.contains_cons, Bool.or_false, Bool.false_or, Bool.false_eq_true, if_false, Bool.true_and, Bool.and_true, pickL, look_hit, look_miss, look_end, slMent, hpMent, S.ment, S.ment.smt, ments, V.ment, List.append_nil, List.nil_append, List.cons_append, List.all_nil, List.all_cons, Option.isSome_some, Bool.and_self, if_true, reduceIte, Nat.reduceEqDiff, not_false_eq_true, reduceCtorEq, Nat.reduceMul, Nat.reduceAdd]; rfl)
    | 4, _ =>
      simp only [tl, tailN, j25, b25, q25, qq, ww, List.append_nil, List.all_nil, List.all_cons, true_or, or_true, false_or, or_false, List.contains_nil, List.isEmpty_nil, List.take_length, List.getElem?_cons_zero, List.getElem?_cons_succ, List.set_cons_zero, List.set_cons_succ, List.replicate, Option.isNone_none, List.map_append, List.length_append, List.all_nil, List.contains_cons, Nat.reduceBEq, List.map_cons, List.map_nil, List.cons_append, List.nil_append, Option.getD_some, Option.getD_none, Option.map_some, Option.map_none, Option.bind_some, Nat.reduceAdd, Nat.reduceMul, Nat.reduceDiv, Nat.reduceEqDiff, Nat.reduceLeDiff, Nat.reduceLT, Int.reduceEq, Int.reduceNe, Int.reduceLT, Int.reduceLE, Int.reduceAdd, Int.reduceSub, Int.reduceMul, Int.reduceNeg, Int.reduceToNat, Int.reducePow, Nat.reducePow, not_false_eq_true, not_true_eq_false, reduceCtorEq, reduceIte, if_true, if_false, Bool.true_eq_false, Bool.false_eq_true, List.length_cons, List.length_nil, and_self, true_and, and_true, List.drop_zero, List.take_succ_cons, List.take_zero, List.drop_succ_cons]
theorem e24 (N d : Nat) (b : List Int) (hl : b.length < 1000000) : TT N (d + 1) 24 [.one (rU b)] = some (.one (.sl 0 0 b.length), [(0, .rows 5 1 (b.map eU))]) := by
  rw [t24]
  simp only [cloneM, List.length_map]
  rw [if_pos ⟨allU b, by omega⟩]
theorem e8 (N d : Nat) (b : List Int) (hb : Bs b) (hN : b.length < N) (hN8 : 8 < N) (hl : b.length < 1000000) : TT N (d + 2) 8 [.one (rU b)] = some (.one (.sl 0 0 (b.length + 4)), [(0, .rows 5 1 ((sel b).map eU))]) := by
  have h24 := fun d => e24 N d b hl
  have h26 := fun d => e26 N d b hb hN hN8 hl
  have h25 := fun d => e25 N d (crcN b) hN8
  have hby : (b.length + 4) * 1 ≤ 140737488355328 := by omega
  have htk : List.take 4 ((tailN (crcN b)).map eU) = (tailN (crcN b)).map eU := rfl
  have hall : ((tailN (crcN b)).map eU).all (fun x => x.length == 1) = true := allU _
  have htl : ((tailN (crcN b)).map eU).length = 4 := rfl
  have hsl : List.take (b.length + 4) (b.map eU ++ (tailN (crcN b)).map eU) = b.map eU ++ (tailN (crcN b)).map eU := List.take_of_length_le (by simp [tail_len])
  have hs : b.map eU ++ (tailN (crcN b)).map eU = (sel b).map eU := by rw [sel, List.map_append]
  rw [t8, F_ev rfl]
  simp only [h24, h25, h26, htk, hall, htl, hby, takeU, hsl, List.length_map, List.length_append, Nat.le_refl, j8, b8, q8, qq, ww, List.append_nil, List.all_nil, List.all_cons, true_or, or_true, false_or, or_false, List.contains_nil, List.isEmpty_nil, List.take_length, List.getElem?_cons_zero, List.getElem?_cons_succ, List.set_cons_zero, List.set_cons_succ, List.replicate, Option.isNone_none, List.map_append, List.length_append, List.all_nil, List.contains_cons, Nat.reduceBEq, List.map_cons, List.map_nil, List.cons_append, List.nil_append, Option.getD_some, Option.getD_none, Option.map_some, Option.map_none, Option.bind_some, Nat.reduceAdd, Nat.reduceMul, Nat.reduceDiv, Nat.reduceEqDiff, Nat.reduceLeDiff, Nat.reduceLT, Int.reduceEq, Int.reduceNe, Int.reduceLT, Int.reduceLE, Int.reduceAdd, Int.reduceSub, Int.reduceMul, Int.reduceNeg, Int.reduceToNat, Int.reducePow, Nat.reducePow, not_false_eq_true, not_true_eq_false, reduceCtorEq, reduceIte, if_true, if_false, Bool.true_eq_false, Bool.false_eq_true, List.length_cons, List.length_nil, and_self, true_and, and_true, List.drop_zero, List.take_succ_cons, List.take_zero, List.drop_succ_cons]
  rw [hs]
def opn (s : List Int) : List Int × Int := if s.length < 4 then ([], 2) else if sealed s = true then (s.take (s.length - 4), 0) else ([], 4)
abbrev opA (p : List Int × Int) : Option (S × Hp) := some (.tup [.one (.sl 0 0 p.1.length), iV p.2], [(0, .rows 5 1 (p.1.map eU))])
theorem cutU (l : List Int) (i : Nat) : (if (0 : Int) = (i : Int) then some (S.one (V.row []), ([] : Hp)) else some (S.one (V.row ((l.map eU).take i)), [])) = some (S.one (rU (l.take i)), []) := by
  split
  · rename_i h
    obtain rfl : i = 0 := by omega
    rfl
  · rw [← List.map_take]
theorem e9 (N d : Nat) (b : List Int) (hb : Bs b) (hN : b.length < N) (hN8 : 8 < N) (hl : b.length < 1000000) : TT N (d + 2) 9 [.one (rU b)] = opA (opn b) := by
  rw [t9, F_ev rfl]
  have hw : IntKind.i64.wrap ((b.length : Int) - 4) = (b.length : Int) - 4 := IntWalk.i64_in _ (by omega)
  by_cases hlt : b.length < 4
  · have h1 : decide ((b.length : Int) - 4 < 0) = true := by simp; omega
    simp only [hw, h1, List.length_map, j9, b9, q9, qq, ww, List.append_nil, List.all_nil, List.all_cons, true_or, or_true, false_or, or_false, List.contains_nil, List.isEmpty_nil, List.take_length, List.getElem?_cons_zero, List.getElem?_cons_succ, List.set_cons_zero, List.set_cons_succ, List.replicate, Option.isNone_none, List.map_append, List.length_append, List.all_nil, List.contains_cons, Nat.reduceBEq, List.map_cons, List.map_nil, List.cons_append, List.nil_append, Option.getD_some, Option.getD_none, Option.map_some, Option.map_none, Option.bind_some, Nat.reduceAdd, Nat.reduceMul, Nat.reduceDiv, Nat.reduceEqDiff, Nat.reduceLeDiff, Nat.reduceLT, Int.reduceEq, Int.reduceNe, Int.reduceLT, Int.reduceLE, Int.reduceAdd, Int.reduceSub, Int.reduceMul, Int.reduceNeg, Int.reduceToNat, Int.reducePow, Nat.reducePow, not_false_eq_true, not_true_eq_false, reduceCtorEq, reduceIte, if_true, if_false, Bool.true_eq_false, Bool.false_eq_true, List.length_cons, List.length_nil, and_self, true_and, and_true, List.drop_zero, List.take_succ_cons, List.take_zero, List.drop_succ_cons]
    rw [show opn b = ([], 2) by simp [opn, hlt]]
    rfl
  · have h1 : decide ((b.length : Int) - 4 < 0) = false := by simp; omega
    obtain ⟨k, hk⟩ : ∃ k, b.length = k + 4 := ⟨b.length - 4, by omega⟩
    have hk1 : (b.length : Int) - 4 = (k : Int) := by omega
    have hk2 : (k : Int) ≤ (b.length : Int) := by omega
    have htl : (b.take k).length = k := by simp; omega
    have hdl : (b.drop k).length = 4 := by simp; omega
    have h24 := fun d => e24 N d (b.take k) (by omega)
    have h26 := fun d => e26 N d (b.take k) (Bs_take hb k) (by omega) hN8 (by omega)
    have h25 := fun d => e25 N d (crcN (b.take k)) hN8
    have h27 := fun d => e27 N d (b.drop k) (tailN (crcN (b.take k))) (by omega) (by omega)
    have hsl : sealed b = decide (b.drop k = tailN (crcN (b.take k))) := by rw [sealed, show b.length - 4 = k by omega]
    rw [← hsl] at h27
    have hcut := cutU b k
    have htk : List.take 4 ((tailN (crcN (b.take k))).map eU) = (tailN (crcN (b.take k))).map eU := rfl
    rw [hk1] at hw h1
    have hne : ¬ (k : Int) = (b.length : Int) := by omega
    have hdm : List.drop k (b.map eU) = (b.drop k).map eU := List.map_drop.symm
    have hkt : List.take k ((b.take k).map eU) = (b.take k).map eU := by rw [← List.map_take, List.take_take, Nat.min_self]
    simp only [hk1, hw, h1, hk2, hne, hcut, hdm, hkt, h24, h25, h26, h27, htk, tail_len, takeU, allU, htl, hdl, List.length_map, j9, b9, q9, qq, ww, List.append_nil, List.all_nil, List.all_cons, true_or, or_true, false_or, or_false, List.contains_nil, List.isEmpty_nil, List.take_length, List.getElem?_cons_zero, List.getElem?_cons_succ, List.set_cons_zero, List.set_cons_succ, List.replicate, Option.isNone_none, List.map_append, List.length_append, List.all_nil, List.contains_cons, Nat.reduceBEq, List.map_cons, List.map_nil, List.cons_append, List.nil_append, Option.getD_some, Option.getD_none, Option.map_some, Option.map_none, Option.bind_some, Nat.reduceAdd, Nat.reduceMul, Nat.reduceDiv, Nat.reduceEqDiff, Nat.reduceLeDiff, Nat.reduceLT, Int.reduceEq, Int.reduceNe, Int.reduceLT, Int.reduceLE, Int.reduceAdd, Int.reduceSub, Int.reduceMul, Int.reduceNeg, Int.reduceToNat, Int.reducePow, Nat.reducePow, not_false_eq_true, not_true_eq_false, reduceCtorEq, reduceIte, if_true, if_false, Bool.true_eq_false, Bool.false_eq_true, List.length_cons, List.length_nil, and_self, true_and, and_true, List.drop_zero, List.take_succ_cons, List.take_zero, List.drop_succ_cons]
    refine fin_cases (fun h => ?_) (fun h => ?_) <;> simp only [h, hk1, hw, h1, hk2, hne, hcut, hdm, hkt, h24, h25, h26, h27, htk, tail_len, takeU, allU, htl, hdl, List.length_map, j9, b9, q9, qq, ww, List.append_nil, List.all_nil, List.all_cons, true_or, or_true, false_or, or_false, List.contains_nil, List.isEmpty_nil, List.take_length, List.getElem?_cons_zero, List.getElem?_cons_succ, List.set_cons_zero, List.set_cons_succ, List.replicate, Option.isNone_none, List.map_append, List.length_append, List.all_nil, List.contains_cons, Nat.reduceBEq, List.map_cons, List.map_nil, List.cons_append, List.nil_append, Option.getD_some, Option.getD_none, Option.map_some, Option.map_none, Option.bind_some, Nat.reduceAdd, Nat.reduceMul, Nat.reduceDiv, Nat.reduceEqDiff, Nat.reduceLeDiff, Nat.reduceLT, Int.reduceEq, Int.reduceNe, Int.reduceLT, Int.reduceLE, Int.reduceAdd, Int.reduceSub, Int.reduceMul, Int.reduceNeg, Int.reduceToNat, Int.reducePow, Nat.reducePow, not_false_eq_true, not_true_eq_false, reduceCtorEq, reduceIte, if_true, if_false, Bool.true_eq_false, Bool.false_eq_true, List.length_cons, List.length_nil, and_self, true_and, and_true, List.drop_zero, List.take_succ_cons, List.take_zero, List.drop_succ_cons]
    · have hs : ¬ sealed b = true := by simpa using h
      rw [show opn b = ([], 4) by rw [opn, if_neg hlt, if_neg hs]]
      rfl
    · have hs : sealed b = true := by simpa using h
      rw [show opn b = (b.take k, 0) by rw [opn, if_neg hlt, if_pos hs, show b.length - 4 = k by omega]]
      simp only [opA, htl]
theorem selfU (l : List Int) : (l.map eU).all selfs = true := by simp [selfs, V.self]
theorem w11 : TT 1000 8 11 [] = some (bV true, []) := by kernel_rfl
end Go.Proofs.Ytgjacdfiilcaaaa.CA
