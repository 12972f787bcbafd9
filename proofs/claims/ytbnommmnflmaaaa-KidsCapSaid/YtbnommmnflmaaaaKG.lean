import Derived.Test.YtbnommmnflmaaaaKF
set_option linter.unusedSimpArgs false
set_option linter.unusedVariables false
namespace Go.Proofs.Ytbnommmnflmaaaa.KA
open Go Go.Proofs.YtbnommmnflmaaaaR Go.Proofs.Ytbnommmnflmaaaa.IK
set_option maxRecDepth 100000
set_option maxHeartbeats 4000000
/-! ### Who asks -/
def askT (t limit : Int) (l : List Kd) (n inc : Int) : List Kd × Int × Int × Int :=
  if hasN l n then (l.set (ix (fun y => decide (y.n = n)) l 0).toNat ⟨n, inc, 0⟩, 0, 0, 0) else
  if (l.length : Int) < limit then (insP t ⟨n, inc, 0⟩ l, 0, 0, 0) else
  match l with
  | [] => ([], 0, 0, 0)
  | y :: r => if nr t y.n n then (y :: r, n + 1, y.n + 1, 0) else (insP t ⟨n, inc, 0⟩ ((y :: r).take r.length), ((y :: r)[r.length]'(by simp)).n + 1, n + 1, 0)
def askP (t self limit : Int) (l : List Kd) (n inc : Int) : List Kd × Int × Int × Int :=
  if !(kOK t self limit l && nr t self n && inB inc 1 1073741824) then ([], 0, 0, 1) else askT t limit l n inc
abbrev askS (r : List Kd × Int × Int × Int) : S := .tup [.one (rK r.1), iV r.2.1, iV r.2.2.1, iV r.2.2.2]
theorem okN_b {n : Int} (h : okN n = true) : 0 ≤ n ∧ n ≤ 7 := inB_t h
theorem e10 (N d : Nat) (t self limit : Int) (l : List Kd) (n inc : Int) (hN : l.length < N) (hl : l.length < 100000) : ans (TT N (d + 8) 10 [iV t, iV self, iV limit, .one (rK l), iV n, iV inc]) = some (askS (askP t self limit l n inc)) := by
  have h13 := e13 N d t self limit l hN (by omega)
  have h27 := e27 N (d + 6) 28 [.int .i64 n] (fun y => decide (y.n = n)) (fun x => e28 N (d + 5) x n) l hN (by omega)
  have h29 := fun d => e29 N d l (by omega)
  rw [t10, F_ev rfl]
  cases hk : kOK t self limit l with
  | false =>
    rw [hk] at h13
    simp only [h13, List.length_map, j10, b10, q10, qq, oo, pp, lives, V.live, purS, S.pur, V.pur, V.pur1, purs, pur1s, mentS, S.ment, S.ment.smt, ments, V.ment, List.append_nil, Hp.ok64, List.all_nil, List.all_cons, S.purT, S.purT.sp, S.self, V.self, selfs, S.self.sself, Hp.self, S.ren, S.ren.sren, V.ren, Hp.ren, true_or, or_true, false_or, or_false, Bool.and_true, Bool.true_and, Bool.and_false, Bool.false_and, Bool.and_self, hand, handSs, handS, handVs, handV, handBs, upTo, one1, List.contains_nil, List.isEmpty_nil, List.take_length, List.getElem?_cons_zero, List.getElem?_cons_succ, fillV, fillR, setAt, List.set_cons_zero, List.set_cons_succ, List.replicate, evE, asRow, callS, callT, callU, names, dedup, blkMents, Blk.mentB, idxOf, V.mapS, S.mapS, S.mapS.smapS, Blk.mapS, encs, encB, isBox, backN, hpBack, killsV, killsS, killsS.ks, killsB, rowsOf, without, keysOk, noTup, boxesOk, fresh, Option.isNone_none, Blk.ren, aloOk, aloV, aloB, frzL, freezes, Go.Proofs.YtbnommmnflmaaaaR.freeze, drop1, S.frz, S.frz.sf, V.frz, Blk.frz, slMent, pickL, List.map_append, S.kill, S.kill.sk, V.kill, Blk.kill, eqvs, ones, Bool.not_true, Bool.not_false, decide_true, decide_false, List.length_append, Int.le_refl, Int.toNat_natCast, Int.toNat_one, Int.cast_ofNat_Int, List.all_nil, List.contains_cons, Nat.reduceBEq, Bool.false_or, Bool.or_false, Bool.true_or, Bool.or_true, look_hit, look_end, look_miss, List.map_cons, List.map_nil, List.cons_append, List.nil_append, Option.getD_some, Option.getD_none, X.ev, ev, bin, ibin, Option.map_some, Option.map_none, Option.bind_some, S.cells, rd, sub, Go.Proofs.YtbnommmnflmaaaaR.shape, asI, bnd, evs, Rs.ev, R.ev, params, okKey, Nat.reduceAdd, Nat.reduceMul, Nat.reduceDiv, Nat.reduceEqDiff, Nat.reduceLeDiff, Nat.reduceLT, Int.reduceEq, Int.reduceNe, Int.reduceLT, Int.reduceLE, Int.reduceAdd, Int.reduceSub, Int.reduceMul, Int.reduceNeg, Int.reduceToNat, Int.reducePow, Nat.reducePow, Int.toNat_zero, not_false_eq_true, not_true_eq_false, reduceCtorEq, Nat.zero_add, Nat.add_zero, reduceIte, if_true, if_false, Bool.true_eq_false, Bool.false_eq_true, List.length_cons, List.length_nil, and_self, true_and, and_true, List.drop_zero, List.take_succ_cons, List.take_zero, List.drop_succ_cons, Nat.le_refl]
    simp [askP, hk]
  | true =>
  rw [hk] at h13
  cases hn : nr t self n with
  | false =>
    simp only [h13, e11, hn, List.length_map, j10, b10, q10, qq, oo, pp, lives, V.live, purS, S.pur, V.pur, V.pur1, purs, pur1s, mentS, S.ment, S.ment.smt, ments, V.ment, List.append_nil, Hp.ok64, List.all_nil, List.all_cons, S.purT, S.purT.sp, S.self, V.self, selfs, S.self.sself, Hp.self, S.ren, S.ren.sren, V.ren, Hp.ren, true_or, or_true, false_or, or_false, Bool.and_true, Bool.true_and, Bool.and_false, Bool.false_and, Bool.and_self, hand, handSs, handS, handVs, handV, handBs, upTo, one1, List.contains_nil, List.isEmpty_nil, List.take_length, List.getElem?_cons_zero, List.getElem?_cons_succ, fillV, fillR, setAt, List.set_cons_zero, List.set_cons_succ, List.replicate, evE, asRow, callS, callT, callU, names, dedup, blkMents, Blk.mentB, idxOf, V.mapS, S.mapS, S.mapS.smapS, Blk.mapS, encs, encB, isBox, backN, hpBack, killsV, killsS, killsS.ks, killsB, rowsOf, without, keysOk, noTup, boxesOk, fresh, Option.isNone_none, Blk.ren, aloOk, aloV, aloB, frzL, freezes, Go.Proofs.YtbnommmnflmaaaaR.freeze, drop1, S.frz, S.frz.sf, V.frz, Blk.frz, slMent, pickL, List.map_append, S.kill, S.kill.sk, V.kill, Blk.kill, eqvs, ones, Bool.not_true, Bool.not_false, decide_true, decide_false, List.length_append, Int.le_refl, Int.toNat_natCast, Int.toNat_one, Int.cast_ofNat_Int, List.all_nil, List.contains_cons, Nat.reduceBEq, Bool.false_or, Bool.or_false, Bool.true_or, Bool.or_true, look_hit, look_end, look_miss, List.map_cons, List.map_nil, List.cons_append, List.nil_append, Option.getD_some, Option.getD_none, X.ev, ev, bin, ibin, Option.map_some, Option.map_none, Option.bind_some, S.cells, rd, sub, Go.Proofs.YtbnommmnflmaaaaR.shape, asI, bnd, evs, Rs.ev, R.ev, params, okKey, Nat.reduceAdd, Nat.reduceMul, Nat.reduceDiv, Nat.reduceEqDiff, Nat.reduceLeDiff, Nat.reduceLT, Int.reduceEq, Int.reduceNe, Int.reduceLT, Int.reduceLE, Int.reduceAdd, Int.reduceSub, Int.reduceMul, Int.reduceNeg, Int.reduceToNat, Int.reducePow, Nat.reducePow, Int.toNat_zero, not_false_eq_true, not_true_eq_false, reduceCtorEq, Nat.zero_add, Nat.add_zero, reduceIte, if_true, if_false, Bool.true_eq_false, Bool.false_eq_true, List.length_cons, List.length_nil, and_self, true_and, and_true, List.drop_zero, List.take_succ_cons, List.take_zero, List.drop_succ_cons, Nat.le_refl]
    simp [askP, hk, hn]
  | true =>
  cases hi : inB inc 1 1073741824 with
  | false =>
    simp only [h13, e11, e26, hn, hi, List.length_map, j10, b10, q10, qq, oo, pp, lives, V.live, purS, S.pur, V.pur, V.pur1, purs, pur1s, mentS, S.ment, S.ment.smt, ments, V.ment, List.append_nil, Hp.ok64, List.all_nil, List.all_cons, S.purT, S.purT.sp, S.self, V.self, selfs, S.self.sself, Hp.self, S.ren, S.ren.sren, V.ren, Hp.ren, true_or, or_true, false_or, or_false, Bool.and_true, Bool.true_and, Bool.and_false, Bool.false_and, Bool.and_self, hand, handSs, handS, handVs, handV, handBs, upTo, one1, List.contains_nil, List.isEmpty_nil, List.take_length, List.getElem?_cons_zero, List.getElem?_cons_succ, fillV, fillR, setAt, List.set_cons_zero, List.set_cons_succ, List.replicate, evE, asRow, callS, callT, callU, names, dedup, blkMents, Blk.mentB, idxOf, V.mapS, S.mapS, S.mapS.smapS, Blk.mapS, encs, encB, isBox, backN, hpBack, killsV, killsS, killsS.ks, killsB, rowsOf, without, keysOk, noTup, boxesOk, fresh, Option.isNone_none, Blk.ren, aloOk, aloV, aloB, frzL, freezes, Go.Proofs.YtbnommmnflmaaaaR.freeze, drop1, S.frz, S.frz.sf, V.frz, Blk.frz, slMent, pickL, List.map_append, S.kill, S.kill.sk, V.kill, Blk.kill, eqvs, ones, Bool.not_true, Bool.not_false, decide_true, decide_false, List.length_append, Int.le_refl, Int.toNat_natCast, Int.toNat_one, Int.cast_ofNat_Int, List.all_nil, List.contains_cons, Nat.reduceBEq, Bool.false_or, Bool.or_false, Bool.true_or, Bool.or_true, look_hit, look_end, look_miss, List.map_cons, List.map_nil, List.cons_append, List.nil_append, Option.getD_some, Option.getD_none, X.ev, ev, bin, ibin, Option.map_some, Option.map_none, Option.bind_some, S.cells, rd, sub, Go.Proofs.YtbnommmnflmaaaaR.shape, asI, bnd, evs, Rs.ev, R.ev, params, okKey, Nat.reduceAdd, Nat.reduceMul, Nat.reduceDiv, Nat.reduceEqDiff, Nat.reduceLeDiff, Nat.reduceLT, Int.reduceEq, Int.reduceNe, Int.reduceLT, Int.reduceLE, Int.reduceAdd, Int.reduceSub, Int.reduceMul, Int.reduceNeg, Int.reduceToNat, Int.reducePow, Nat.reducePow, Int.toNat_zero, not_false_eq_true, not_true_eq_false, reduceCtorEq, Nat.zero_add, Nat.add_zero, reduceIte, if_true, if_false, Bool.true_eq_false, Bool.false_eq_true, List.length_cons, List.length_nil, and_self, true_and, and_true, List.drop_zero, List.take_succ_cons, List.take_zero, List.drop_succ_cons, Nat.le_refl]
    simp [askP, hk, hn, hi]
  | true =>
  have hok := kOK_t hk
  have hnb := okN_b (nr_t hn).2.2.1
  have hall := chn_all hok.2.2.2.2.2
  rw [show askP t self limit l n inc = askT t limit l n inc by unfold askP; rw [hk, hn, hi]; rfl]
  have hwn : IntKind.i64.wrap (n + 1) = n + 1 := IntWalk.i64_in _ (by omega)
  cases hh : hasN l n with
  | true =>
    obtain ⟨k, k1, k2, k3, k4⟩ := ix_some (Int.le_refl 0) (show l.any (fun y => decide (y.n = n)) = true from hh)
    rw [Int.zero_add] at k1
    have hask : askT t limit l n inc = (l.set k ⟨n, inc, 0⟩, 0, 0, 0) := by unfold askT; rw [hh, if_pos rfl, k1]; rfl
    rw [k1] at h27
    rw [hask]
    have hb : 0 ≤ (k : Int) ∧ (k : Int) < (l.length : Int) := by omega
    have hge : decide ((k : Int) ≥ 0) = true := by simp
    have hg : (l.map eK)[k]? = some (eK l[k]) := by simp [k2]
    have hset : (l.map eK).set k (eK ⟨n, inc, 0⟩) = (l.set k ⟨n, inc, 0⟩).map eK := by rw [List.map_set]
    have htk : (List.map eK (l.set k ⟨n, inc, 0⟩)).take l.length = (l.set k ⟨n, inc, 0⟩).map eK := List.take_of_length_le (by simp)
    (try dsimp only at hset htk)
    simp only [h13, e11, e26, hn, hi, h27, hge, hb.1, hb.2, hg, h29, hset, htk, Nat.zero_add, List.length_map, List.length_set, Int.toNat_natCast, j10, b10, q10, qq, oo, pp, lives, V.live, purS, S.pur, V.pur, V.pur1, purs, pur1s, mentS, S.ment, S.ment.smt, ments, V.ment, List.append_nil, Hp.ok64, List.all_nil, List.all_cons, S.purT, S.purT.sp, S.self, V.self, selfs, S.self.sself, Hp.self, S.ren, S.ren.sren, V.ren, Hp.ren, true_or, or_true, false_or, or_false, Bool.and_true, Bool.true_and, Bool.and_false, Bool.false_and, Bool.and_self, hand, handSs, handS, handVs, handV, handBs, upTo, one1, List.contains_nil, List.isEmpty_nil, List.take_length, List.getElem?_cons_zero, List.getElem?_cons_succ, fillV, fillR, setAt, List.set_cons_zero, List.set_cons_succ, List.replicate, evE, asRow, callS, callT, callU, names, dedup, blkMents, Blk.mentB, idxOf, V.mapS, S.mapS, S.mapS.smapS, Blk.mapS, encs, encB, isBox, backN, hpBack, killsV, killsS, killsS.ks, killsB, rowsOf, without, keysOk, noTup, boxesOk, fresh, Option.isNone_none, Blk.ren, aloOk, aloV, aloB, frzL, freezes, Go.Proofs.YtbnommmnflmaaaaR.freeze, drop1, S.frz, S.frz.sf, V.frz, Blk.frz, slMent, pickL, List.map_append, S.kill, S.kill.sk, V.kill, Blk.kill, eqvs, ones, Bool.not_true, Bool.not_false, decide_true, decide_false, List.length_append, Int.le_refl, Int.toNat_natCast, Int.toNat_one, Int.cast_ofNat_Int, List.all_nil, List.contains_cons, Nat.reduceBEq, Bool.false_or, Bool.or_false, Bool.true_or, Bool.or_true, look_hit, look_end, look_miss, List.map_cons, List.map_nil, List.cons_append, List.nil_append, Option.getD_some, Option.getD_none, X.ev, ev, bin, ibin, Option.map_some, Option.map_none, Option.bind_some, S.cells, rd, sub, Go.Proofs.YtbnommmnflmaaaaR.shape, asI, bnd, evs, Rs.ev, R.ev, params, okKey, Nat.reduceAdd, Nat.reduceMul, Nat.reduceDiv, Nat.reduceEqDiff, Nat.reduceLeDiff, Nat.reduceLT, Int.reduceEq, Int.reduceNe, Int.reduceLT, Int.reduceLE, Int.reduceAdd, Int.reduceSub, Int.reduceMul, Int.reduceNeg, Int.reduceToNat, Int.reducePow, Nat.reducePow, Int.toNat_zero, not_false_eq_true, not_true_eq_false, reduceCtorEq, Nat.zero_add, Nat.add_zero, reduceIte, if_true, if_false, Bool.true_eq_false, Bool.false_eq_true, List.length_cons, List.length_nil, and_self, true_and, and_true, List.drop_zero, List.take_succ_cons, List.take_zero, List.drop_succ_cons, Nat.le_refl]
  | false =>
  have hneg : ix (fun y : Kd => decide (y.n = n)) l 0 = -1 := by
    have h9 : ∀ (l : List Kd) (i : Int), l.any (fun y => decide (y.n = n)) = false → ix (fun y : Kd => decide (y.n = n)) l i = -1 := by
      intro l
      induction l with
      | nil => intro i _; rfl
      | cons x r ih =>
        intro i h
        rw [List.any_cons, Bool.or_eq_false_iff] at h
        rw [ix, h.1, if_neg (by decide)]
        exact ih _ h.2
    exact h9 l 0 hh
  rw [hneg] at h27
  have hge : decide ((-1 : Int) ≥ 0) = false := rfl
  cases hroom : decide ((l.length : Int) < limit) with
  | true =>
    have hask : askT t limit l n inc = (insP t ⟨n, inc, 0⟩ l, 0, 0, 0) := by unfold askT; rw [hh, if_neg (by decide), if_pos (by simpa using hroom)]
    rw [hask]
    have h30 := fun d => e30 N d t l ⟨n, inc, 0⟩ hN hl
    have htk : (List.map eK (insP t ⟨n, inc, 0⟩ l)).take (l.length + 1) = (insP t ⟨n, inc, 0⟩ l).map eK := List.take_of_length_le (by rw [List.length_map, insP_len]; omega)
    (try dsimp only at h30)
    simp only [h13, e11, e26, hn, hi, h27, hge, hroom, h30, htk, List.length_map, insP_len, Int.toNat_natCast, j10, b10, q10, qq, oo, pp, lives, V.live, purS, S.pur, V.pur, V.pur1, purs, pur1s, mentS, S.ment, S.ment.smt, ments, V.ment, List.append_nil, Hp.ok64, List.all_nil, List.all_cons, S.purT, S.purT.sp, S.self, V.self, selfs, S.self.sself, Hp.self, S.ren, S.ren.sren, V.ren, Hp.ren, true_or, or_true, false_or, or_false, Bool.and_true, Bool.true_and, Bool.and_false, Bool.false_and, Bool.and_self, hand, handSs, handS, handVs, handV, handBs, upTo, one1, List.contains_nil, List.isEmpty_nil, List.take_length, List.getElem?_cons_zero, List.getElem?_cons_succ, fillV, fillR, setAt, List.set_cons_zero, List.set_cons_succ, List.replicate, evE, asRow, callS, callT, callU, names, dedup, blkMents, Blk.mentB, idxOf, V.mapS, S.mapS, S.mapS.smapS, Blk.mapS, encs, encB, isBox, backN, hpBack, killsV, killsS, killsS.ks, killsB, rowsOf, without, keysOk, noTup, boxesOk, fresh, Option.isNone_none, Blk.ren, aloOk, aloV, aloB, frzL, freezes, Go.Proofs.YtbnommmnflmaaaaR.freeze, drop1, S.frz, S.frz.sf, V.frz, Blk.frz, slMent, pickL, List.map_append, S.kill, S.kill.sk, V.kill, Blk.kill, eqvs, ones, Bool.not_true, Bool.not_false, decide_true, decide_false, List.length_append, Int.le_refl, Int.toNat_natCast, Int.toNat_one, Int.cast_ofNat_Int, List.all_nil, List.contains_cons, Nat.reduceBEq, Bool.false_or, Bool.or_false, Bool.true_or, Bool.or_true, look_hit, look_end, look_miss, List.map_cons, List.map_nil, List.cons_append, List.nil_append, Option.getD_some, Option.getD_none, X.ev, ev, bin, ibin, Option.map_some, Option.map_none, Option.bind_some, S.cells, rd, sub, Go.Proofs.YtbnommmnflmaaaaR.shape, asI, bnd, evs, Rs.ev, R.ev, params, okKey, Nat.reduceAdd, Nat.reduceMul, Nat.reduceDiv, Nat.reduceEqDiff, Nat.reduceLeDiff, Nat.reduceLT, Int.reduceEq, Int.reduceNe, Int.reduceLT, Int.reduceLE, Int.reduceAdd, Int.reduceSub, Int.reduceMul, Int.reduceNeg, Int.reduceToNat, Int.reducePow, Nat.reducePow, Int.toNat_zero, not_false_eq_true, not_true_eq_false, reduceCtorEq, Nat.zero_add, Nat.add_zero, reduceIte, if_true, if_false, Bool.true_eq_false, Bool.false_eq_true, List.length_cons, List.length_nil, and_self, true_and, and_true, List.drop_zero, List.take_succ_cons, List.take_zero, List.drop_succ_cons, Nat.le_refl]
  | false =>
  cases l with
  | nil => simp at hroom; omega
  | cons y r =>
    have hynr := hall y (by simp)
    have hyb := okN_b (nr_t hynr.1).2.2.1
    have hwy : IntKind.i64.wrap (y.n + 1) = y.n + 1 := IntWalk.i64_in _ (by omega)
    have hg0 : ((y :: r).map eK)[0]? = some (eK y) := rfl
    have hb0 : (0 : Int) ≤ 0 ∧ (0 : Int) < (((y :: r).length : Nat) : Int) := by simp
    cases hf : nr t y.n n with
    | true =>
      have hask : askT t limit (y :: r) n inc = (y :: r, n + 1, y.n + 1, 0) := by unfold askT; rw [hh, if_neg (by decide), if_neg (by simpa using hroom)]; simp only [hf, if_true]
      rw [hask]
      generalize hL : y :: r = L at *
      simp only [h13, e11, e26, hn, hi, h27, hge, hroom, hf, hb0.1, hb0.2, hg0, hwn, hwy, h29, takeK, List.length_map, j10, b10, q10, qq, oo, pp, lives, V.live, purS, S.pur, V.pur, V.pur1, purs, pur1s, mentS, S.ment, S.ment.smt, ments, V.ment, List.append_nil, Hp.ok64, List.all_nil, List.all_cons, S.purT, S.purT.sp, S.self, V.self, selfs, S.self.sself, Hp.self, S.ren, S.ren.sren, V.ren, Hp.ren, true_or, or_true, false_or, or_false, Bool.and_true, Bool.true_and, Bool.and_false, Bool.false_and, Bool.and_self, hand, handSs, handS, handVs, handV, handBs, upTo, one1, List.contains_nil, List.isEmpty_nil, List.take_length, List.getElem?_cons_zero, List.getElem?_cons_succ, fillV, fillR, setAt, List.set_cons_zero, List.set_cons_succ, List.replicate, evE, asRow, callS, callT, callU, names, dedup, blkMents, Blk.mentB, idxOf, V.mapS, S.mapS, S.mapS.smapS, Blk.mapS, encs, encB, isBox, backN, hpBack, killsV, killsS, killsS.ks, killsB, rowsOf, without, keysOk, noTup, boxesOk, fresh, Option.isNone_none, Blk.ren, aloOk, aloV, aloB, frzL, freezes, Go.Proofs.YtbnommmnflmaaaaR.freeze, drop1, S.frz, S.frz.sf, V.frz, Blk.frz, slMent, pickL, List.map_append, S.kill, S.kill.sk, V.kill, Blk.kill, eqvs, ones, Bool.not_true, Bool.not_false, decide_true, decide_false, List.length_append, Int.le_refl, Int.toNat_natCast, Int.toNat_one, Int.cast_ofNat_Int, List.all_nil, List.contains_cons, Nat.reduceBEq, Bool.false_or, Bool.or_false, Bool.true_or, Bool.or_true, look_hit, look_end, look_miss, List.map_cons, List.map_nil, List.cons_append, List.nil_append, Option.getD_some, Option.getD_none, X.ev, ev, bin, ibin, Option.map_some, Option.map_none, Option.bind_some, S.cells, rd, sub, Go.Proofs.YtbnommmnflmaaaaR.shape, asI, bnd, evs, Rs.ev, R.ev, params, okKey, Nat.reduceAdd, Nat.reduceMul, Nat.reduceDiv, Nat.reduceEqDiff, Nat.reduceLeDiff, Nat.reduceLT, Int.reduceEq, Int.reduceNe, Int.reduceLT, Int.reduceLE, Int.reduceAdd, Int.reduceSub, Int.reduceMul, Int.reduceNeg, Int.reduceToNat, Int.reducePow, Nat.reducePow, Int.toNat_zero, not_false_eq_true, not_true_eq_false, reduceCtorEq, Nat.zero_add, Nat.add_zero, reduceIte, if_true, if_false, Bool.true_eq_false, Bool.false_eq_true, List.length_cons, List.length_nil, and_self, true_and, and_true, List.drop_zero, List.take_succ_cons, List.take_zero, List.drop_succ_cons, Nat.le_refl]
    | false =>
      have hask : askT t limit (y :: r) n inc = (insP t ⟨n, inc, 0⟩ ((y :: r).take r.length), ((y :: r)[r.length]'(by simp)).n + 1, n + 1, 0) := by unfold askT; rw [hh, if_neg (by decide), if_neg (by simpa using hroom)]; simp only [hf]; rfl
      rw [hask]
      obtain ⟨z, hz⟩ : ∃ z, z = (y :: r)[r.length]'(by simp) := ⟨_, rfl⟩
      rw [← hz]
      have hzm : z ∈ y :: r := by rw [hz]; exact List.getElem_mem _
      have hzb := okN_b (nr_t (hall z hzm).1).2.2.1
      have hwz : IntKind.i64.wrap (z.n + 1) = z.n + 1 := IntWalk.i64_in _ (by omega)
      have hgz : ((y :: r).map eK)[r.length]? = some (eK z) := by rw [List.getElem?_map, List.getElem?_eq_getElem (by simp), hz]; rfl
      have hw1 : IntKind.i64.wrap ((((y :: r).length : Nat) : Int) - 1) = ((r.length : Nat) : Int) := by rw [IntWalk.i64_in _ (by simp at hl ⊢; omega)]; simp
      have hbz : 0 ≤ ((r.length : Nat) : Int) ∧ ((r.length : Nat) : Int) < (((y :: r).length : Nat) : Int) := by simp; omega
      have hbz2 : ((r.length : Nat) : Int) ≤ (((y :: r).length : Nat) : Int) := by omega
      have hlm : ((y :: r).take r.length).length = r.length := by simp
      have h30 : ∀ d, TT N (d + 6) 30 [iV t, .one (.row (((y :: r).map eK).take r.length)), aK ⟨n, inc, 0⟩] = some (.one (.sl 0 0 (r.length + 1)), [(0, .rows 35 3 ((insP t ⟨n, inc, 0⟩ ((y :: r).take r.length)).map eK))]) := by
        intro d
        have h := e30 N d t ((y :: r).take r.length) ⟨n, inc, 0⟩ (by rw [hlm]; simp at hN; omega) (by rw [hlm]; simp at hl; omega)
        rw [hlm] at h
        rw [← List.map_take]
        exact h
      have hin : (insP t ⟨n, inc, 0⟩ ((y :: r).take r.length)).length = r.length + 1 := by rw [insP_len, hlm]
      have htk : (List.map eK (insP t ⟨n, inc, 0⟩ ((y :: r).take r.length))).take (r.length + 1) = (insP t ⟨n, inc, 0⟩ ((y :: r).take r.length)).map eK := List.take_of_length_le (by rw [List.length_map, hin]; omega)
      have hal := all3 (y :: r)
      clear hz hask
      generalize hL : y :: r = L at *
      generalize hI : insP t ⟨n, inc, 0⟩ (L.take r.length) = I at *
      (try dsimp only at h30)
      by_cases hr0 : r.length = 0
      · have hq : ((0 : Int) = ((r.length : Nat) : Int)) = True := eq_true (by omega)
        have h30' := h30
        rw [hr0, List.take_zero] at h30'
        have htk1 : (I.map eK).take 1 = I.map eK := by rw [hr0] at htk; exact htk
        have hin1 : I.length = 1 := by rw [hin, hr0]
        have h11 : (1 : Nat) ≤ 1 := Nat.le_refl 1
        simp only [h13, e11, e26, hn, hi, h27, hge, hroom, hf, hb0.1, hb0.2, hg0, hgz, hw1, hwz, hwn, hbz.1, hbz.2, hbz2, hq, h30', htk1, hin1, h11, hal, List.length_map, Int.toNat_natCast, j10, b10, q10, qq, oo, pp, lives, V.live, purS, S.pur, V.pur, V.pur1, purs, pur1s, mentS, S.ment, S.ment.smt, ments, V.ment, List.append_nil, Hp.ok64, List.all_nil, List.all_cons, S.purT, S.purT.sp, S.self, V.self, selfs, S.self.sself, Hp.self, S.ren, S.ren.sren, V.ren, Hp.ren, true_or, or_true, false_or, or_false, Bool.and_true, Bool.true_and, Bool.and_false, Bool.false_and, Bool.and_self, hand, handSs, handS, handVs, handV, handBs, upTo, one1, List.contains_nil, List.isEmpty_nil, List.take_length, List.getElem?_cons_zero, List.getElem?_cons_succ, fillV, fillR, setAt, List.set_cons_zero, List.set_cons_succ, List.replicate, evE, asRow, callS, callT, callU, names, dedup, blkMents, Blk.mentB, idxOf, V.mapS, S.mapS, S.mapS.smapS, Blk.mapS, encs, encB, isBox, backN, hpBack, killsV, killsS, killsS.ks, killsB, rowsOf, without, keysOk, noTup, boxesOk, fresh, Option.isNone_none, Blk.ren, aloOk, aloV, aloB, frzL, freezes, Go.Proofs.YtbnommmnflmaaaaR.freeze, drop1, S.frz, S.frz.sf, V.frz, Blk.frz, slMent, pickL, List.map_append, S.kill, S.kill.sk, V.kill, Blk.kill, eqvs, ones, Bool.not_true, Bool.not_false, decide_true, decide_false, List.length_append, Int.le_refl, Int.toNat_natCast, Int.toNat_one, Int.cast_ofNat_Int, List.all_nil, List.contains_cons, Nat.reduceBEq, Bool.false_or, Bool.or_false, Bool.true_or, Bool.or_true, look_hit, look_end, look_miss, List.map_cons, List.map_nil, List.cons_append, List.nil_append, Option.getD_some, Option.getD_none, X.ev, ev, bin, ibin, Option.map_some, Option.map_none, Option.bind_some, S.cells, rd, sub, Go.Proofs.YtbnommmnflmaaaaR.shape, asI, bnd, evs, Rs.ev, R.ev, params, okKey, Nat.reduceAdd, Nat.reduceMul, Nat.reduceDiv, Nat.reduceEqDiff, Nat.reduceLeDiff, Nat.reduceLT, Int.reduceEq, Int.reduceNe, Int.reduceLT, Int.reduceLE, Int.reduceAdd, Int.reduceSub, Int.reduceMul, Int.reduceNeg, Int.reduceToNat, Int.reducePow, Nat.reducePow, Int.toNat_zero, not_false_eq_true, not_true_eq_false, reduceCtorEq, Nat.zero_add, Nat.add_zero, reduceIte, if_true, if_false, Bool.true_eq_false, Bool.false_eq_true, List.length_cons, List.length_nil, and_self, true_and, and_true, List.drop_zero, List.take_succ_cons, List.take_zero, List.drop_succ_cons, Nat.le_refl]
      · have hq : ((0 : Int) = ((r.length : Nat) : Int)) = False := eq_false (by omega)
        simp only [h13, e11, e26, hn, hi, h27, hge, hroom, hf, hb0.1, hb0.2, hg0, hgz, hw1, hwz, hwn, hbz.1, hbz.2, hbz2, hq, h30, htk, hin, hal, List.length_map, List.drop_zero, Int.toNat_natCast, j10, b10, q10, qq, oo, pp, lives, V.live, purS, S.pur, V.pur, V.pur1, purs, pur1s, mentS, S.ment, S.ment.smt, ments, V.ment, List.append_nil, Hp.ok64, List.all_nil, List.all_cons, S.purT, S.purT.sp, S.self, V.self, selfs, S.self.sself, Hp.self, S.ren, S.ren.sren, V.ren, Hp.ren, true_or, or_true, false_or, or_false, Bool.and_true, Bool.true_and, Bool.and_false, Bool.false_and, Bool.and_self, hand, handSs, handS, handVs, handV, handBs, upTo, one1, List.contains_nil, List.isEmpty_nil, List.take_length, List.getElem?_cons_zero, List.getElem?_cons_succ, fillV, fillR, setAt, List.set_cons_zero, List.set_cons_succ, List.replicate, evE, asRow, callS, callT, callU, names, dedup, blkMents, Blk.mentB, idxOf, V.mapS, S.mapS, S.mapS.smapS, Blk.mapS, encs, encB, isBox, backN, hpBack, killsV, killsS, killsS.ks, killsB, rowsOf, without, keysOk, noTup, boxesOk, fresh, Option.isNone_none, Blk.ren, aloOk, aloV, aloB, frzL, freezes, Go.Proofs.YtbnommmnflmaaaaR.freeze, drop1, S.frz, S.frz.sf, V.frz, Blk.frz, slMent, pickL, List.map_append, S.kill, S.kill.sk, V.kill, Blk.kill, eqvs, ones, Bool.not_true, Bool.not_false, decide_true, decide_false, List.length_append, Int.le_refl, Int.toNat_natCast, Int.toNat_one, Int.cast_ofNat_Int, List.all_nil, List.contains_cons, Nat.reduceBEq, Bool.false_or, Bool.or_false, Bool.true_or, Bool.or_true, look_hit, look_end, look_miss, List.map_cons, List.map_nil, List.cons_append, List.nil_append, Option.getD_some, Option.getD_none, X.ev, ev, bin, ibin, Option.map_some, Option.map_none, Option.bind_some, S.cells, rd, sub, Go.Proofs.YtbnommmnflmaaaaR.shape, asI, bnd, evs, Rs.ev, R.ev, params, okKey, Nat.reduceAdd, Nat.reduceMul, Nat.reduceDiv, Nat.reduceEqDiff, Nat.reduceLeDiff, Nat.reduceLT, Int.reduceEq, Int.reduceNe, Int.reduceLT, Int.reduceLE, Int.reduceAdd, Int.reduceSub, Int.reduceMul, Int.reduceNeg, Int.reduceToNat, Int.reducePow, Nat.reducePow, Int.toNat_zero, not_false_eq_true, not_true_eq_false, reduceCtorEq, Nat.zero_add, Nat.add_zero, reduceIte, if_true, if_false, Bool.true_eq_false, Bool.false_eq_true, List.length_cons, List.length_nil, and_self, true_and, and_true, List.drop_zero, List.take_succ_cons, List.take_zero, List.drop_succ_cons, Nat.le_refl]
end Go.Proofs.Ytbnommmnflmaaaa.KA
