import Derived.Test.YtgjacdfiilcaaaaWL
set_option linter.unusedSimpArgs false
set_option linter.unusedVariables false
namespace Go.Proofs.Ytgjacdfiilcaaaa.CA
open Go Go.Proofs.YtgjacdfiilcaaaaR Go.Proofs.Ytgjacdfiilcaaaa.IW Go.Proofs.Ytgjacdfiilcaaaa.CZ Go.Proofs.Ytgjacdfiilcaaaa.WZ
open Go.Proofs.Ytgjacdfiilcaaaa.MA (Mg eM aM msgOK)
set_option maxRecDepth 100000
set_option maxHeartbeats 4000000
theorem qd_s (n : Int) : ∀ j, qd (n / 256) j = qd n (j + 1)
  | 0 => rfl
  | j + 1 => by rw [qd, qd_s n j]; rfl
theorem digs_cons : ∀ (j : Nat) (n : Int), digs (j + 1) n = (qd n j % 256) :: digs j n
  | 0, n => rfl
  | j + 1, n => by
    rw [show digs (j + 1 + 1) n = digs (j + 1) (n / 256) ++ [n % 256] from rfl, digs_cons j (n / 256), qd_s]
    rfl
def l45 (s : Nat) (n : Int) (j : Nat) : List Int := List.replicate (s - j) 0 ++ digs j n
theorem set45 (s j : Nat) (n : Int) (h : j < s) : ((l45 s n j).map eU).set (s - 1 - j) (eU (qd n j % 256)) = (l45 s n (j + 1)).map eU := by
  unfold l45
  rw [← List.map_set]
  congr 1
  rw [show s - j = (s - (j + 1)) + 1 by omega, List.replicate_succ', List.append_assoc, List.set_append_right _ _ (by simp; omega), digs_cons, show s - 1 - j - (List.replicate (s - (j + 1)) (0 : Int)).length = 0 by simp; omega]
  rfl
theorem get45 (s j : Nat) (n : Int) (h : j < s) : ((l45 s n j).map eU)[s - 1 - j]? = some (eU 0) := by
  unfold l45
  rw [List.getElem?_map, List.getElem?_append_left (by simp; omega), List.getElem?_replicate, if_pos (by omega)]
  rfl
theorem e45 (N d : Nat) (s : Nat) (n : Int) (hs : s ≤ 8) (hn : 0 ≤ n ∧ n < 4611686018427387904) (hN : 8 < N) : TT N (d + 1) 45 [iV s, iV n] = some (.one (.sl 0 0 s), [(0, .rows 5 1 ((digs s n).map eU))]) := by
  have h0 : (0 : Int) ≤ (s : Int) := by omega
  have h1 : (s : Int) * 1 ≤ 140737488355328 := by omega
  have hw1 : IntKind.i64.wrap ((s : Int) - 1) = (s : Int) - 1 - ((0 : Nat) : Int) := by rw [IntWalk.i64_in _ (by omega)]; omega
  have hrep : List.replicate s [V.int .u8 0] = (l45 s n 0).map eU := by simp [l45, digs]
  obtain ⟨T, hT⟩ : ∃ T, T = (digs s n).map eU := ⟨_, rfl⟩
  rw [← hT, t45, F_ev rfl]
  simp only [h0, h1, hw1, hrep, Int.toNat_natCast, j45, b45, q45, qq, ww, List.append_nil, List.all_nil, List.all_cons, true_or, or_true, false_or, or_false, List.contains_nil, List.isEmpty_nil, List.take_length, List.getElem?_cons_zero, List.getElem?_cons_succ, List.set_cons_zero, List.set_cons_succ, List.replicate, Option.isNone_none, List.map_append, List.length_append, List.all_nil, List.contains_cons, Nat.reduceBEq, List.map_cons, List.map_nil, List.cons_append, List.nil_append, Option.getD_some, Option.getD_none, Option.map_some, Option.map_none, Option.bind_some, Nat.reduceAdd, Nat.reduceMul, Nat.reduceDiv, Nat.reduceEqDiff, Nat.reduceLeDiff, Nat.reduceLT, Int.reduceEq, Int.reduceNe, Int.reduceLT, Int.reduceLE, Int.reduceAdd, Int.reduceSub, Int.reduceMul, Int.reduceNeg, Int.reduceToNat, Int.reducePow, Nat.reducePow, not_false_eq_true, not_true_eq_false, reduceCtorEq, reduceIte, if_true, if_false, Bool.true_eq_false, Bool.false_eq_true, List.length_cons, List.length_nil, and_self, true_and, and_true, List.drop_zero, List.take_succ_cons, List.take_zero, List.drop_succ_cons]
  refine loopK (K := fun o => fin _ (aft _ _ _ o)) (fun j => ⟨[(1, iV (qd n j)), (5, .one (.sl 512 0 s)), (6, iV ((s : Int) - 1 - (j : Int)))], [(512, .rows 5 1 ((l45 s n j).map eU))]⟩) (fun _ => some (.one (.sl 0 0 s), [(0, .rows 5 1 T)])) s ?hr s 0 N _ (by omega) (by omega) ?hk
  case hk => simp only [qd, gcK, lowB, Nat.reduceLeDiff, Nat.reduceBEq, List.contains_nil, List.contains_cons, Bool.or_false, Bool.false_or, Bool.false_eq_true, if_false, Bool.true_and, Bool.and_true, pickL, look_hit, look_miss, look_end, slMent, hpMent, S.ment, S.ment.smt, ments, V.ment, List.append_nil, List.nil_append, List.cons_append, List.all_nil, List.all_cons, Option.isSome_some, Bool.and_self, if_true, reduceIte, Nat.reduceEqDiff, not_false_eq_true, reduceCtorEq, Nat.reduceMul, Nat.reduceAdd]; rfl
  case hr =>
    intro j n1 hj ih
    (try dsimp only)
    have hl : (l45 s n j).length = s := by rw [l45, List.length_append, digs_len, List.length_replicate]; omega
    by_cases hlt : j < s
    · have g1 : decide (0 ≤ (s : Int) - 1 - (j : Int)) = true := by simp; omega
      have hq := qd_in hn.1 j
      have hd := dig8 hq.1
      have hu : IntKind.i64.wrap ((qd n j).tdiv 256) = qd n (j + 1) := quo8 (by omega)
      have hset := set45 s j n hlt
      have hget := get45 s j n hlt
      have hi1 : 0 ≤ (s : Int) - 1 - (j : Int) ∧ (s : Int) - 1 - (j : Int) < (s : Int) := by omega
      have htn : ((s : Int) - 1 - (j : Int)).toNat = s - 1 - j := by omega
      have hw : IntKind.i64.wrap ((s : Int) - 1 - (j : Int) - 1) = (s : Int) - 1 - ((j + 1 : Nat) : Int) := by rw [IntWalk.i64_in _ (by omega)]; omega
      generalize hG : l45 s n j = G at *
      simp only [g1, hd, hu, hset, hget, hi1.1, hi1.2, htn, hw, hl, List.length_map, Nat.zero_add, j45, b45, q45, qq, ww, List.append_nil, List.all_nil, List.all_cons, true_or, or_true, false_or, or_false, List.contains_nil, List.isEmpty_nil, List.take_length, List.getElem?_cons_zero, List.getElem?_cons_succ, List.set_cons_zero, List.set_cons_succ, List.replicate, Option.isNone_none, List.map_append, List.length_append, List.all_nil, List.contains_cons, Nat.reduceBEq, List.map_cons, List.map_nil, List.cons_append, List.nil_append, Option.getD_some, Option.getD_none, Option.map_some, Option.map_none, Option.bind_some, Nat.reduceAdd, Nat.reduceMul, Nat.reduceDiv, Nat.reduceEqDiff, Nat.reduceLeDiff, Nat.reduceLT, Int.reduceEq, Int.reduceNe, Int.reduceLT, Int.reduceLE, Int.reduceAdd, Int.reduceSub, Int.reduceMul, Int.reduceNeg, Int.reduceToNat, Int.reducePow, Nat.reducePow, not_false_eq_true, not_true_eq_false, reduceCtorEq, reduceIte, if_true, if_false, Bool.true_eq_false, Bool.false_eq_true, List.length_cons, List.length_nil, and_self, true_and, and_true, List.drop_zero, List.take_succ_cons, List.take_zero, List.drop_succ_cons]
      exact ih hlt _ (by simp only [gcK, lowB, Nat.reduceLeDiff, Nat.reduceBEq, List.contains_nil, List.contains_cons, Bool.or_false, Bool.false_or, Bool.false_eq_true, if_false, Bool.true_and, Bool.and_true, pickL, look_hit, look_miss, look_end, slMent, hpMent, S.ment, S.ment.smt, ments, V.ment, List.append_nil, List.nil_append, List.cons_append, List.all_nil, List.all_cons, Option.isSome_some, Bool.and_self, if_true, reduceIte, Nat.reduceEqDiff, not_false_eq_true, reduceCtorEq, Nat.reduceMul, Nat.reduceAdd])
    · obtain rfl : j = s := by omega
      have g1 : decide (0 ≤ (j : Int) - 1 - (j : Int)) = false := by simp; omega
      have he : (l45 j n j).map eU = T := by rw [hT, l45]; simp
      rw [he]
      have hTl : T.length = j := by rw [hT, List.length_map, digs_len]
      have htk : List.take j T = T := List.take_of_length_le (by omega)
      simp only [g1, htk, hTl, Nat.le_refl, j45, b45, q45, qq, ww, List.append_nil, List.all_nil, List.all_cons, true_or, or_true, false_or, or_false, List.contains_nil, List.isEmpty_nil, List.take_length, List.getElem?_cons_zero, List.getElem?_cons_succ, List.set_cons_zero, List.set_cons_succ, List.replicate, Option.isNone_none, List.map_append, List.length_append, List.all_nil, List.contains_cons, Nat.reduceBEq, List.map_cons, List.map_nil, List.cons_append, List.nil_append, Option.getD_some, Option.getD_none, Option.map_some, Option.map_none, Option.bind_some, Nat.reduceAdd, Nat.reduceMul, Nat.reduceDiv, Nat.reduceEqDiff, Nat.reduceLeDiff, Nat.reduceLT, Int.reduceEq, Int.reduceNe, Int.reduceLT, Int.reduceLE, Int.reduceAdd, Int.reduceSub, Int.reduceMul, Int.reduceNeg, Int.reduceToNat, Int.reducePow, Nat.reducePow, not_false_eq_true, not_true_eq_false, reduceCtorEq, reduceIte, if_true, if_false, Bool.true_eq_false, Bool.false_eq_true, List.length_cons, List.length_nil, and_self, true_and, and_true, List.drop_zero, List.take_succ_cons, List.take_zero, List.drop_succ_cons]
theorem encL_len (l : List Int) : (encL l).length = l.length + 1 := by simp [encL]
def ecl (l : List Int) (i : Nat) : List Int := (l.length : Int) % 256 :: (l.take i).map (· % 256)
theorem ecl_s (l : List Int) {i : Nat} (h : i < l.length) : ecl l (i + 1) = ecl l i ++ [l[i] % 256] := by
  unfold ecl
  rw [show l.take (i + 1) = l.take i ++ [l[i]] by simp, List.map_append]
  rfl
theorem ecl_len (l : List Int) {i : Nat} (h : i ≤ l.length) : (ecl l i).length = i + 1 := by simp [ecl]; omega
theorem e46 (N d : Nat) (l : List Int) (hl : l.length < 1000) (hN : l.length < N) : TT N (d + 1) 46 [.one (rI l)] = some (.one (.sl 0 0 (l.length + 1)), [(0, .rows 5 1 ((encL l).map eU))]) := by
  have h8 : IntKind.u8.wrap (l.length : Int) = (l.length : Int) % 256 := w8 _
  have he0 : [[V.int .u8 ((l.length : Int) % 256)]] = (ecl l 0).map eU := rfl
  have hee : ecl l l.length = encL l := by rw [ecl, List.take_length]; rfl
  rw [← hee, t46, F_ev rfl]
  simp only [h8, List.length_map, j46, b46, q46, qq, ww, List.append_nil, List.all_nil, List.all_cons, true_or, or_true, false_or, or_false, List.contains_nil, List.isEmpty_nil, List.take_length, List.getElem?_cons_zero, List.getElem?_cons_succ, List.set_cons_zero, List.set_cons_succ, List.replicate, Option.isNone_none, List.map_append, List.length_append, List.all_nil, List.contains_cons, Nat.reduceBEq, List.map_cons, List.map_nil, List.cons_append, List.nil_append, Option.getD_some, Option.getD_none, Option.map_some, Option.map_none, Option.bind_some, Nat.reduceAdd, Nat.reduceMul, Nat.reduceDiv, Nat.reduceEqDiff, Nat.reduceLeDiff, Nat.reduceLT, Int.reduceEq, Int.reduceNe, Int.reduceLT, Int.reduceLE, Int.reduceAdd, Int.reduceSub, Int.reduceMul, Int.reduceNeg, Int.reduceToNat, Int.reducePow, Nat.reducePow, not_false_eq_true, not_true_eq_false, reduceCtorEq, reduceIte, if_true, if_false, Bool.true_eq_false, Bool.false_eq_true, List.length_cons, List.length_nil, and_self, true_and, and_true, List.drop_zero, List.take_succ_cons, List.take_zero, List.drop_succ_cons]
  rw [he0]
  refine loopK (K := fun o => fin _ (aft _ _ _ o)) (fun i => ⟨[(0, .one (rI l)), (3, .one (.sl 512 0 (i + 1))), (4, iV i)], [(512, .rows 5 1 ((ecl l i).map eU))]⟩) (fun _ => some (.one (.sl 0 0 (l.length + 1)), [(0, .rows 5 1 ((ecl l l.length).map eU))])) l.length ?hr l.length 0 N _ (by omega) hN ?hk
  case hk => simp only [Nat.zero_add, gcK, lowB, Nat.reduceLeDiff, Nat.reduceBEq, List.contains_nil, List.contains_cons, Bool.or_false, Bool.false_or, Bool.false_eq_true, if_false, Bool.true_and, Bool.and_true, pickL, look_hit, look_miss, look_end, slMent, hpMent, S.ment, S.ment.smt, ments, V.ment, List.append_nil, List.nil_append, List.cons_append, List.all_nil, List.all_cons, Option.isSome_some, Bool.and_self, if_true, reduceIte, Nat.reduceEqDiff, not_false_eq_true, reduceCtorEq, Nat.reduceMul, Nat.reduceAdd]; rfl
  case hr =>
    intro i n hi ih
    (try dsimp only)
    have hll := ecl_len l hi
    by_cases hlt : i < l.length
    · have h1 : decide ((i : Int) < (l.length : Int)) = true := by simp; omega
      have hg : (l.map eI)[i]? = some (eI l[i]) := by simp [hlt]
      have hb : 0 ≤ (i : Int) ∧ (i : Int) < (l.length : Int) := by omega
      have hw : IntKind.u8.wrap l[i] = l[i] % 256 := w8 _
      have hC : (ecl l (i + 1)).map eU = (ecl l i).map eU ++ [eU (l[i] % 256)] := by rw [ecl_s l hlt, List.map_append]; rfl
      have htk : List.take (i + 1) ((ecl l i).map eU) = (ecl l i).map eU := List.take_of_length_le (by rw [List.length_map]; omega)
      have hb2 : (i + 1 + 1) * 1 ≤ 140737488355328 := by omega
      generalize ecl l i = G at *
      simp only [h1, hg, hb.1, hb.2, hw, htk, hb2, hll, allU, wi i (by omega), List.length_map, Int.toNat_natCast, Nat.zero_add, j46, b46, q46, qq, ww, List.append_nil, List.all_nil, List.all_cons, true_or, or_true, false_or, or_false, List.contains_nil, List.isEmpty_nil, List.take_length, List.getElem?_cons_zero, List.getElem?_cons_succ, List.set_cons_zero, List.set_cons_succ, List.replicate, Option.isNone_none, List.map_append, List.length_append, List.all_nil, List.contains_cons, Nat.reduceBEq, List.map_cons, List.map_nil, List.cons_append, List.nil_append, Option.getD_some, Option.getD_none, Option.map_some, Option.map_none, Option.bind_some, Nat.reduceAdd, Nat.reduceMul, Nat.reduceDiv, Nat.reduceEqDiff, Nat.reduceLeDiff, Nat.reduceLT, Int.reduceEq, Int.reduceNe, Int.reduceLT, Int.reduceLE, Int.reduceAdd, Int.reduceSub, Int.reduceMul, Int.reduceNeg, Int.reduceToNat, Int.reducePow, Nat.reducePow, not_false_eq_true, not_true_eq_false, reduceCtorEq, reduceIte, if_true, if_false, Bool.true_eq_false, Bool.false_eq_true, List.length_cons, List.length_nil, and_self, true_and, and_true, List.drop_zero, List.take_succ_cons, List.take_zero, List.drop_succ_cons]
      exact ih hlt _ (by simp only [hC, gcK, lowB, Nat.reduceLeDiff, Nat.reduceBEq, List.contains_nil, List.contains_cons, Bool.or_false, Bool.false_or, Bool.false_eq_true, if_false, Bool.true_and, Bool.and_true, pickL, look_hit, look_miss, look_end, slMent, hpMent, S.ment, S.ment.smt, ments, V.ment, List.append_nil, List.nil_append, List.cons_append, List.all_nil, List.all_cons, Option.isSome_some, Bool.and_self, if_true, reduceIte, Nat.reduceEqDiff, not_false_eq_true, reduceCtorEq, Nat.reduceMul, Nat.reduceAdd])
    · obtain rfl : i = l.length := by omega
      have h1 : decide ((l.length : Int) < (l.length : Int)) = false := by simp
      have htk : List.take (l.length + 1) ((ecl l l.length).map eU) = (ecl l l.length).map eU := List.take_of_length_le (by rw [List.length_map]; omega)
      simp only [h1, htk, hll, List.length_map, Nat.le_refl, j46, b46, q46, qq, ww, List.append_nil, List.all_nil, List.all_cons, true_or, or_true, false_or, or_false, List.contains_nil, List.isEmpty_nil, List.take_length, List.getElem?_cons_zero, List.getElem?_cons_succ, List.set_cons_zero, List.set_cons_succ, List.replicate, Option.isNone_none, List.map_append, List.length_append, List.all_nil, List.contains_cons, Nat.reduceBEq, List.map_cons, List.map_nil, List.cons_append, List.nil_append, Option.getD_some, Option.getD_none, Option.map_some, Option.map_none, Option.bind_some, Nat.reduceAdd, Nat.reduceMul, Nat.reduceDiv, Nat.reduceEqDiff, Nat.reduceLeDiff, Nat.reduceLT, Int.reduceEq, Int.reduceNe, Int.reduceLT, Int.reduceLE, Int.reduceAdd, Int.reduceSub, Int.reduceMul, Int.reduceNeg, Int.reduceToNat, Int.reducePow, Nat.reducePow, not_false_eq_true, not_true_eq_false, reduceCtorEq, reduceIte, if_true, if_false, Bool.true_eq_false, Bool.false_eq_true, List.length_cons, List.length_nil, and_self, true_and, and_true, List.drop_zero, List.take_succ_cons, List.take_zero, List.drop_succ_cons]
end Go.Proofs.Ytgjacdfiilcaaaa.CA
