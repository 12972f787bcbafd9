import Derived.Test.YtjafaefiigingaaAE
set_option linter.unusedSimpArgs false
set_option linter.unusedVariables false
namespace Go.Proofs.Ytjafaefiigingaa.AA
open Go Go.Proofs.YtjafaefiigingaaR Go.Proofs.Ytjafaefiigingaa.IA
set_option maxRecDepth 100000
set_option maxHeartbeats 4000000
theorem e70 (N d : Nat) (l : List It) (x : It) (k : Nat) (hk : k ≤ l.length) (hl : l.length < 1000000) : TT N (d + 1) 70 [.one (.sl 0 0 l.length), iV k, .one (.sl 1 0 1), .tup [hR 60 2 (l.map eT), hR 60 2 [eT x]]] =
    some (.one (.sl 0 0 (l.length + 1)), [(0, .rows 60 2 ((l.take k ++ [x] ++ l.drop k).map eT)), (1, .rows 60 2 [eT x])]) := by
  rw [t70]
  show (if _ then _ else _) = _
  rw [if_pos ⟨⟨rfl, rfl, rfl, rfl⟩, by simp, by omega, by omega, all2 l, rfl, by omega⟩]
  simp [List.map_take, List.map_drop]
/-- Put where it belongs; none: it is there. -/
def ins (x : It) : List It → Option (List It)
  | [] => some [x]
  | y :: r => if x.s ≤ y.s then (if y.s = x.s then none else some (x :: y :: r)) else (ins x r).map (y :: ·)
def addA (l : List It) (want win : Int) (x : It) : List It × Int :=
  if !(ahOK l want win && inB x.v 0 2147483647) then ([], 1) else if !fitsB x.s want win then ([], 6) else match ins x l with
  | none => ([], 8)
  | some m => (m, 0)
theorem ins_ix {x : It} : ∀ {l : List It} {k : Nat}, k < l.length → (∀ j (hj : j < l.length), j < k → ¬ x.s ≤ l[j].s) → (h : k < l.length) → x.s ≤ l[k].s → ins x l = if l[k].s = x.s then none else some (l.take k ++ [x] ++ l.drop k)
  | [], k, hk, _, _, _ => by simp at hk
  | y :: r, 0, _, _, _, h => by
    simp at h
    simp [ins, h]
  | y :: r, k + 1, hk, hb, h1, h => by
    have h0 := hb 0 (by simp) (by omega)
    simp at h0
    unfold ins
    rw [if_neg (by omega), ins_ix (l := r) (k := k) (by simpa using hk) (fun j hj hjk => hb (j + 1) (by simp; omega) (by omega)) (by simpa using hk) (by simpa using h)]
    simp only [List.getElem_cons_succ]
    split <;> simp
theorem ins_end {x : It} : ∀ {l : List It}, (l.any fun y => decide (x.s ≤ y.s)) = false → ins x l = some (l ++ [x])
  | [], _ => rfl
  | y :: r, h => by
    rw [List.any_cons, Bool.or_eq_false_iff] at h
    have h1 : ¬ x.s ≤ y.s := by simpa using h.1
    unfold ins
    rw [if_neg h1, ins_end h.2]
    rfl
theorem e37 (N d : Nat) (l : List It) (want win : Int) (x : It) (hN : l.length < N) (hl : l.length < 100000) : ans (TT N (d + 4) 37 [.one (rT l), iV want, iV win, aT x]) = some (.tup [.one (rT (addA l want win x).1), iV (addA l want win x).2]) := by
  have h42 := e42 N d l want win hN (by omega)
  have h65 := e65 N (d + 2) 66 (eT x) (fun y => decide (x.s ≤ y.s)) (fun y => e66 N (d + 1) y x) l hN (by omega)
  have h69 := fun d => e69 N d l (by omega)
  have hb8 : (l.length + 1) * 16 ≤ 140737488355328 := by omega
  rw [t37, F_ev rfl]
  cases hA : ahOK l want win with
  | false =>
    rw [hA] at h42
    simp only [h42, h65, h69, e67, List.length_map, j37, b37, q37, qq, oo, pp, purS, S.pur, V.pur, V.pur1, purs, pur1s, mentS, S.ment, S.ment.smt, ments, V.ment, List.append_nil, Hp.ok64, List.all_nil, List.all_cons, S.purT, S.purT.sp, S.self, V.self, selfs, S.self.sself, Hp.self, S.ren, S.ren.sren, V.ren, Hp.ren, true_or, or_true, false_or, or_false, Bool.and_true, Bool.true_and, Bool.and_false, Bool.false_and, Bool.and_self, hand, handSs, handS, handVs, handV, handBs, upTo, one1, List.contains_nil, List.isEmpty_nil, List.take_length, List.getElem?_cons_zero, List.getElem?_cons_succ, fillV, fillR, setAt, List.set_cons_zero, List.set_cons_succ, List.replicate, evE, asRow, callS, callT, callU, names, dedup, blkMents, Blk.mentB, idxOf, V.mapS, S.mapS, S.mapS.smapS, Blk.mapS, encs, encB, isBox, backN, hpBack, killsV, killsS, killsS.ks, killsB, rowsOf, without, keysOk, noTup, boxesOk, fresh, Option.isNone_none, Blk.ren, aloOk, aloV, aloB, frzL, freezes, Go.Proofs.YtjafaefiigingaaR.freeze, drop1, S.frz, S.frz.sf, V.frz, Blk.frz, slMent, pickL, List.map_append, S.kill, S.kill.sk, V.kill, Blk.kill, eqvs, ones, Bool.not_true, Bool.not_false, decide_true, decide_false, List.length_append, Int.le_refl, Int.toNat_natCast, Int.toNat_one, Int.cast_ofNat_Int, List.all_nil, List.contains_cons, Nat.reduceBEq, Bool.false_or, Bool.or_false, Bool.true_or, Bool.or_true, look_hit, look_end, look_miss, List.map_cons, List.map_nil, List.cons_append, List.nil_append, Option.getD_some, Option.getD_none, X.ev, ev, bin, ibin, Option.map_some, Option.map_none, Option.bind_some, S.cells, rd, sub, Go.Proofs.YtjafaefiigingaaR.shape, asI, bnd, evs, Rs.ev, R.ev, params, okKey, Nat.reduceAdd, Nat.reduceMul, Nat.reduceDiv, Nat.reduceEqDiff, Nat.reduceLeDiff, Nat.reduceLT, Int.reduceEq, Int.reduceNe, Int.reduceLT, Int.reduceLE, Int.reduceAdd, Int.reduceSub, Int.reduceMul, Int.reduceNeg, Int.reduceToNat, Int.reducePow, Nat.reducePow, Int.toNat_zero, not_false_eq_true, not_true_eq_false, reduceCtorEq, Nat.zero_add, Nat.add_zero, reduceIte, if_true, if_false, Bool.true_eq_false, Bool.false_eq_true, List.length_cons, List.length_nil, and_self, true_and, and_true, List.drop_zero, List.take_succ_cons, List.take_zero, List.drop_succ_cons, Nat.le_refl]
    simp [addA, hA]
  | true =>
  rw [hA] at h42
  have hw : 1 ≤ want ∧ want ≤ 1073741824 ∧ 1 ≤ win ∧ win ≤ 16 := by simp [ahOK, inB] at hA; omega
  have hww : IntKind.i64.wrap (want + win) = want + win := IntWalk.i64_in _ (by omega)
  have h68 := fun d s => e68 N d s want win hww
  cases hV : inB x.v 0 2147483647 with
  | false =>
    simp only [h42, h65, h69, e67, hV, List.length_map, j37, b37, q37, qq, oo, pp, purS, S.pur, V.pur, V.pur1, purs, pur1s, mentS, S.ment, S.ment.smt, ments, V.ment, List.append_nil, Hp.ok64, List.all_nil, List.all_cons, S.purT, S.purT.sp, S.self, V.self, selfs, S.self.sself, Hp.self, S.ren, S.ren.sren, V.ren, Hp.ren, true_or, or_true, false_or, or_false, Bool.and_true, Bool.true_and, Bool.and_false, Bool.false_and, Bool.and_self, hand, handSs, handS, handVs, handV, handBs, upTo, one1, List.contains_nil, List.isEmpty_nil, List.take_length, List.getElem?_cons_zero, List.getElem?_cons_succ, fillV, fillR, setAt, List.set_cons_zero, List.set_cons_succ, List.replicate, evE, asRow, callS, callT, callU, names, dedup, blkMents, Blk.mentB, idxOf, V.mapS, S.mapS, S.mapS.smapS, Blk.mapS, encs, encB, isBox, backN, hpBack, killsV, killsS, killsS.ks, killsB, rowsOf, without, keysOk, noTup, boxesOk, fresh, Option.isNone_none, Blk.ren, aloOk, aloV, aloB, frzL, freezes, Go.Proofs.YtjafaefiigingaaR.freeze, drop1, S.frz, S.frz.sf, V.frz, Blk.frz, slMent, pickL, List.map_append, S.kill, S.kill.sk, V.kill, Blk.kill, eqvs, ones, Bool.not_true, Bool.not_false, decide_true, decide_false, List.length_append, Int.le_refl, Int.toNat_natCast, Int.toNat_one, Int.cast_ofNat_Int, List.all_nil, List.contains_cons, Nat.reduceBEq, Bool.false_or, Bool.or_false, Bool.true_or, Bool.or_true, look_hit, look_end, look_miss, List.map_cons, List.map_nil, List.cons_append, List.nil_append, Option.getD_some, Option.getD_none, X.ev, ev, bin, ibin, Option.map_some, Option.map_none, Option.bind_some, S.cells, rd, sub, Go.Proofs.YtjafaefiigingaaR.shape, asI, bnd, evs, Rs.ev, R.ev, params, okKey, Nat.reduceAdd, Nat.reduceMul, Nat.reduceDiv, Nat.reduceEqDiff, Nat.reduceLeDiff, Nat.reduceLT, Int.reduceEq, Int.reduceNe, Int.reduceLT, Int.reduceLE, Int.reduceAdd, Int.reduceSub, Int.reduceMul, Int.reduceNeg, Int.reduceToNat, Int.reducePow, Nat.reducePow, Int.toNat_zero, not_false_eq_true, not_true_eq_false, reduceCtorEq, Nat.zero_add, Nat.add_zero, reduceIte, if_true, if_false, Bool.true_eq_false, Bool.false_eq_true, List.length_cons, List.length_nil, and_self, true_and, and_true, List.drop_zero, List.take_succ_cons, List.take_zero, List.drop_succ_cons, Nat.le_refl]
    simp [addA, hA, hV]
  | true =>
  cases hF : fitsB x.s want win with
  | false =>
    simp only [h42, h65, h69, e67, hV, h68, hF, List.length_map, j37, b37, q37, qq, oo, pp, purS, S.pur, V.pur, V.pur1, purs, pur1s, mentS, S.ment, S.ment.smt, ments, V.ment, List.append_nil, Hp.ok64, List.all_nil, List.all_cons, S.purT, S.purT.sp, S.self, V.self, selfs, S.self.sself, Hp.self, S.ren, S.ren.sren, V.ren, Hp.ren, true_or, or_true, false_or, or_false, Bool.and_true, Bool.true_and, Bool.and_false, Bool.false_and, Bool.and_self, hand, handSs, handS, handVs, handV, handBs, upTo, one1, List.contains_nil, List.isEmpty_nil, List.take_length, List.getElem?_cons_zero, List.getElem?_cons_succ, fillV, fillR, setAt, List.set_cons_zero, List.set_cons_succ, List.replicate, evE, asRow, callS, callT, callU, names, dedup, blkMents, Blk.mentB, idxOf, V.mapS, S.mapS, S.mapS.smapS, Blk.mapS, encs, encB, isBox, backN, hpBack, killsV, killsS, killsS.ks, killsB, rowsOf, without, keysOk, noTup, boxesOk, fresh, Option.isNone_none, Blk.ren, aloOk, aloV, aloB, frzL, freezes, Go.Proofs.YtjafaefiigingaaR.freeze, drop1, S.frz, S.frz.sf, V.frz, Blk.frz, slMent, pickL, List.map_append, S.kill, S.kill.sk, V.kill, Blk.kill, eqvs, ones, Bool.not_true, Bool.not_false, decide_true, decide_false, List.length_append, Int.le_refl, Int.toNat_natCast, Int.toNat_one, Int.cast_ofNat_Int, List.all_nil, List.contains_cons, Nat.reduceBEq, Bool.false_or, Bool.or_false, Bool.true_or, Bool.or_true, look_hit, look_end, look_miss, List.map_cons, List.map_nil, List.cons_append, List.nil_append, Option.getD_some, Option.getD_none, X.ev, ev, bin, ibin, Option.map_some, Option.map_none, Option.bind_some, S.cells, rd, sub, Go.Proofs.YtjafaefiigingaaR.shape, asI, bnd, evs, Rs.ev, R.ev, params, okKey, Nat.reduceAdd, Nat.reduceMul, Nat.reduceDiv, Nat.reduceEqDiff, Nat.reduceLeDiff, Nat.reduceLT, Int.reduceEq, Int.reduceNe, Int.reduceLT, Int.reduceLE, Int.reduceAdd, Int.reduceSub, Int.reduceMul, Int.reduceNeg, Int.reduceToNat, Int.reducePow, Nat.reducePow, Int.toNat_zero, not_false_eq_true, not_true_eq_false, reduceCtorEq, Nat.zero_add, Nat.add_zero, reduceIte, if_true, if_false, Bool.true_eq_false, Bool.false_eq_true, List.length_cons, List.length_nil, and_self, true_and, and_true, List.drop_zero, List.take_succ_cons, List.take_zero, List.drop_succ_cons, Nat.le_refl]
    simp [addA, hA, hV, hF]
  | true =>
  have hadd : addA l want win x = match ins x l with | none => ([], 8) | some m => (m, 0) := by simp [addA, hA, hV, hF]
  rw [hadd]
  cases hany : (l.any fun y => decide (x.s ≤ y.s)) with
  | false =>
    have hix : ix (fun y => decide (x.s ≤ y.s)) l 0 = -1 := by
      have h9 : ∀ (l : List It) (i : Int), (l.any fun y => decide (x.s ≤ y.s)) = false → ix (fun y => decide (x.s ≤ y.s)) l i = -1 := by
        intro l
        induction l with
        | nil => intro i _; rfl
        | cons y r ih =>
          intro i h
          rw [List.any_cons, Bool.or_eq_false_iff] at h
          rw [ix, h.1, if_neg (by decide)]
          exact ih _ h.2
      exact h9 l 0 hany
    have hneg : decide ((-1 : Int) < 0) = true := rfl
    rw [ins_end hany]
    rw [hix] at h65
    simp only [h42, h65, h69, e67, hV, h68, hF, hneg, hb8, takeT, all2, List.length_map, j37, b37, q37, qq, oo, pp, purS, S.pur, V.pur, V.pur1, purs, pur1s, mentS, S.ment, S.ment.smt, ments, V.ment, List.append_nil, Hp.ok64, List.all_nil, List.all_cons, S.purT, S.purT.sp, S.self, V.self, selfs, S.self.sself, Hp.self, S.ren, S.ren.sren, V.ren, Hp.ren, true_or, or_true, false_or, or_false, Bool.and_true, Bool.true_and, Bool.and_false, Bool.false_and, Bool.and_self, hand, handSs, handS, handVs, handV, handBs, upTo, one1, List.contains_nil, List.isEmpty_nil, List.take_length, List.getElem?_cons_zero, List.getElem?_cons_succ, fillV, fillR, setAt, List.set_cons_zero, List.set_cons_succ, List.replicate, evE, asRow, callS, callT, callU, names, dedup, blkMents, Blk.mentB, idxOf, V.mapS, S.mapS, S.mapS.smapS, Blk.mapS, encs, encB, isBox, backN, hpBack, killsV, killsS, killsS.ks, killsB, rowsOf, without, keysOk, noTup, boxesOk, fresh, Option.isNone_none, Blk.ren, aloOk, aloV, aloB, frzL, freezes, Go.Proofs.YtjafaefiigingaaR.freeze, drop1, S.frz, S.frz.sf, V.frz, Blk.frz, slMent, pickL, List.map_append, S.kill, S.kill.sk, V.kill, Blk.kill, eqvs, ones, Bool.not_true, Bool.not_false, decide_true, decide_false, List.length_append, Int.le_refl, Int.toNat_natCast, Int.toNat_one, Int.cast_ofNat_Int, List.all_nil, List.contains_cons, Nat.reduceBEq, Bool.false_or, Bool.or_false, Bool.true_or, Bool.or_true, look_hit, look_end, look_miss, List.map_cons, List.map_nil, List.cons_append, List.nil_append, Option.getD_some, Option.getD_none, X.ev, ev, bin, ibin, Option.map_some, Option.map_none, Option.bind_some, S.cells, rd, sub, Go.Proofs.YtjafaefiigingaaR.shape, asI, bnd, evs, Rs.ev, R.ev, params, okKey, Nat.reduceAdd, Nat.reduceMul, Nat.reduceDiv, Nat.reduceEqDiff, Nat.reduceLeDiff, Nat.reduceLT, Int.reduceEq, Int.reduceNe, Int.reduceLT, Int.reduceLE, Int.reduceAdd, Int.reduceSub, Int.reduceMul, Int.reduceNeg, Int.reduceToNat, Int.reducePow, Nat.reducePow, Int.toNat_zero, not_false_eq_true, not_true_eq_false, reduceCtorEq, Nat.zero_add, Nat.add_zero, reduceIte, if_true, if_false, Bool.true_eq_false, Bool.false_eq_true, List.length_cons, List.length_nil, and_self, true_and, and_true, List.drop_zero, List.take_succ_cons, List.take_zero, List.drop_succ_cons, Nat.le_refl]
    simp
    rw [List.take_of_length_le (by simp), List.take_of_length_le (by simp)]
  | true =>
    obtain ⟨k, hix, hk, hpk, hbef⟩ := ix_some (Int.le_refl 0) hany
    rw [Int.zero_add] at hix
    rw [hix] at h65
    have hneg : decide ((k : Int) < 0) = false := by simp
    have hb : 0 ≤ (k : Int) ∧ (k : Int) < (l.length : Int) := by omega
    have hg : (l.map eT)[k]? = some (eT l[k]) := by simp [hk]
    have hxk : x.s ≤ l[k].s := by simpa using hpk
    rw [ins_ix hk (fun j hj hjk => by simpa using hbef j hjk) hk hxk]
    have h70 := fun d => e70 N d l x k (by omega) (by omega)
    cases hq : decide (l[k].s = x.s) with
    | true =>
      have hq' : l[k].s = x.s := by simpa using hq
      rw [if_pos hq']
      simp only [h42, h65, h69, e67, hV, h68, hF, hneg, hb.1, hb.2, hg, hq, List.length_map, Int.toNat_natCast, j37, b37, q37, qq, oo, pp, purS, S.pur, V.pur, V.pur1, purs, pur1s, mentS, S.ment, S.ment.smt, ments, V.ment, List.append_nil, Hp.ok64, List.all_nil, List.all_cons, S.purT, S.purT.sp, S.self, V.self, selfs, S.self.sself, Hp.self, S.ren, S.ren.sren, V.ren, Hp.ren, true_or, or_true, false_or, or_false, Bool.and_true, Bool.true_and, Bool.and_false, Bool.false_and, Bool.and_self, hand, handSs, handS, handVs, handV, handBs, upTo, one1, List.contains_nil, List.isEmpty_nil, List.take_length, List.getElem?_cons_zero, List.getElem?_cons_succ, fillV, fillR, setAt, List.set_cons_zero, List.set_cons_succ, List.replicate, evE, asRow, callS, callT, callU, names, dedup, blkMents, Blk.mentB, idxOf, V.mapS, S.mapS, S.mapS.smapS, Blk.mapS, encs, encB, isBox, backN, hpBack, killsV, killsS, killsS.ks, killsB, rowsOf, without, keysOk, noTup, boxesOk, fresh, Option.isNone_none, Blk.ren, aloOk, aloV, aloB, frzL, freezes, Go.Proofs.YtjafaefiigingaaR.freeze, drop1, S.frz, S.frz.sf, V.frz, Blk.frz, slMent, pickL, List.map_append, S.kill, S.kill.sk, V.kill, Blk.kill, eqvs, ones, Bool.not_true, Bool.not_false, decide_true, decide_false, List.length_append, Int.le_refl, Int.toNat_natCast, Int.toNat_one, Int.cast_ofNat_Int, List.all_nil, List.contains_cons, Nat.reduceBEq, Bool.false_or, Bool.or_false, Bool.true_or, Bool.or_true, look_hit, look_end, look_miss, List.map_cons, List.map_nil, List.cons_append, List.nil_append, Option.getD_some, Option.getD_none, X.ev, ev, bin, ibin, Option.map_some, Option.map_none, Option.bind_some, S.cells, rd, sub, Go.Proofs.YtjafaefiigingaaR.shape, asI, bnd, evs, Rs.ev, R.ev, params, okKey, Nat.reduceAdd, Nat.reduceMul, Nat.reduceDiv, Nat.reduceEqDiff, Nat.reduceLeDiff, Nat.reduceLT, Int.reduceEq, Int.reduceNe, Int.reduceLT, Int.reduceLE, Int.reduceAdd, Int.reduceSub, Int.reduceMul, Int.reduceNeg, Int.reduceToNat, Int.reducePow, Nat.reducePow, Int.toNat_zero, not_false_eq_true, not_true_eq_false, reduceCtorEq, Nat.zero_add, Nat.add_zero, reduceIte, if_true, if_false, Bool.true_eq_false, Bool.false_eq_true, List.length_cons, List.length_nil, and_self, true_and, and_true, List.drop_zero, List.take_succ_cons, List.take_zero, List.drop_succ_cons, Nat.le_refl]
      rfl
    | false =>
      have hq' : ¬ l[k].s = x.s := by simpa using hq
      rw [if_neg hq']
      have hlk : (List.take k l).length + 1 + (List.drop k l).length = l.length + 1 := by rw [List.length_take, List.length_drop]; omega
      have htk : List.take (l.length + 1) (List.map eT (List.take k l) ++ [eT x] ++ List.map eT (List.drop k l)) = List.map eT (List.take k l) ++ [eT x] ++ List.map eT (List.drop k l) := List.take_of_length_le (by simp; omega)
      simp only [h42, h65, h69, e67, hV, h68, hF, hneg, hb.1, hb.2, hg, hq, h70, hlk, htk, List.length_map, Int.toNat_natCast, j37, b37, q37, qq, oo, pp, purS, S.pur, V.pur, V.pur1, purs, pur1s, mentS, S.ment, S.ment.smt, ments, V.ment, List.append_nil, Hp.ok64, List.all_nil, List.all_cons, S.purT, S.purT.sp, S.self, V.self, selfs, S.self.sself, Hp.self, S.ren, S.ren.sren, V.ren, Hp.ren, true_or, or_true, false_or, or_false, Bool.and_true, Bool.true_and, Bool.and_false, Bool.false_and, Bool.and_self, hand, handSs, handS, handVs, handV, handBs, upTo, one1, List.contains_nil, List.isEmpty_nil, List.take_length, List.getElem?_cons_zero, List.getElem?_cons_succ, fillV, fillR, setAt, List.set_cons_zero, List.set_cons_succ, List.replicate, evE, asRow, callS, callT, callU, names, dedup, blkMents, Blk.mentB, idxOf, V.mapS, S.mapS, S.mapS.smapS, Blk.mapS, encs, encB, isBox, backN, hpBack, killsV, killsS, killsS.ks, killsB, rowsOf, without, keysOk, noTup, boxesOk, fresh, Option.isNone_none, Blk.ren, aloOk, aloV, aloB, frzL, freezes, Go.Proofs.YtjafaefiigingaaR.freeze, drop1, S.frz, S.frz.sf, V.frz, Blk.frz, slMent, pickL, List.map_append, S.kill, S.kill.sk, V.kill, Blk.kill, eqvs, ones, Bool.not_true, Bool.not_false, decide_true, decide_false, List.length_append, Int.le_refl, Int.toNat_natCast, Int.toNat_one, Int.cast_ofNat_Int, List.all_nil, List.contains_cons, Nat.reduceBEq, Bool.false_or, Bool.or_false, Bool.true_or, Bool.or_true, look_hit, look_end, look_miss, List.map_cons, List.map_nil, List.cons_append, List.nil_append, Option.getD_some, Option.getD_none, X.ev, ev, bin, ibin, Option.map_some, Option.map_none, Option.bind_some, S.cells, rd, sub, Go.Proofs.YtjafaefiigingaaR.shape, asI, bnd, evs, Rs.ev, R.ev, params, okKey, Nat.reduceAdd, Nat.reduceMul, Nat.reduceDiv, Nat.reduceEqDiff, Nat.reduceLeDiff, Nat.reduceLT, Int.reduceEq, Int.reduceNe, Int.reduceLT, Int.reduceLE, Int.reduceAdd, Int.reduceSub, Int.reduceMul, Int.reduceNeg, Int.reduceToNat, Int.reducePow, Nat.reducePow, Int.toNat_zero, not_false_eq_true, not_true_eq_false, reduceCtorEq, Nat.zero_add, Nat.add_zero, reduceIte, if_true, if_false, Bool.true_eq_false, Bool.false_eq_true, List.length_cons, List.length_nil, and_self, true_and, and_true, List.drop_zero, List.take_succ_cons, List.take_zero, List.drop_succ_cons, Nat.le_refl]
      simp
end Go.Proofs.Ytjafaefiigingaa.AA
