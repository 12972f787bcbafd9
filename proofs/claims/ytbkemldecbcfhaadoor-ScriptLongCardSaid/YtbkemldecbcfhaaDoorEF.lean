import Derived.Test.YtbkemldecbcfhaaDoorEE
set_option linter.unusedSimpArgs false
set_option linter.unusedVariables false
namespace Go.Proofs.YtbkemldecbcfhaaDoor.EC
open Go Go.Proofs.YtbkemldecbcfhaaDoorR Go.Proofs.YtbkemldecbcfhaaDoor.IS Go.Proofs.YtbkemldecbcfhaaDoor.EA
set_option maxRecDepth 100000
set_option maxHeartbeats 4000000
abbrev nm1 : ByteArray := ⟨#[110, 111, 100, 101]⟩
abbrev nm2 : ByteArray := ⟨#[116, 111, 112, 105, 99]⟩
abbrev nm3 : ByteArray := ⟨#[118, 97, 108, 117, 101]⟩
abbrev nm4 : ByteArray := ⟨#[112, 108, 97, 99, 101]⟩
abbrev nm5 : ByteArray := ⟨#[109, 97, 115, 107]⟩
abbrev nm6 : ByteArray := ⟨#[107, 105, 110, 100]⟩
theorem e31 (N d : Nat) (c : Cf) (s : Sp) (hc : okC c = true) : TT N (d + 2) 31 [.agg (eC c), .agg (eP s)] = some (.one (oV (fl nm1 s.n 0 (c.n - 1) 9)), []) := by
  simp only [okC, decide_eq_true_eq] at hc
  have h30 := fun d s n lo hi e => e30 N d s n lo hi e
  have hw : IntKind.i64.wrap (c.n - 1) = c.n - 1 := w64 (by omega)
  rw [t31, F_ev rfl]
  simp only [h30, hw, ↓oV_pur, ↓oV_pur1, ↓oV_hand, ↓oV_live, ↓oV_ment, j31, b31, q31, qq, oo3, go_mkp, go_stp, ments, V.ment, List.isEmpty_nil, oo, pp, lives, V.live, purS, S.pur, V.pur, V.pur1, purs, pur1s, mentS, S.ment, S.ment.smt, ments, V.ment, List.append_nil, Hp.ok64, List.all_nil, List.all_cons, S.purT, S.purT.sp, S.self, V.self, selfs, S.self.sself, Hp.self, S.ren, S.ren.sren, V.ren, Hp.ren, true_or, or_true, false_or, or_false, Bool.and_true, Bool.true_and, Bool.and_false, Bool.false_and, Bool.and_self, hand, handSs, handS, handVs, handV, handBs, upTo, one1, List.contains_nil, List.isEmpty_nil, List.take_length, List.getElem?_cons_zero, List.getElem?_cons_succ, fillV, fillR, setAt, List.set_cons_zero, List.set_cons_succ, List.replicate, evE, asRow, callS, callT, callU, names, dedup, blkMents, Blk.mentB, idxOf, V.mapS, S.mapS, S.mapS.smapS, Blk.mapS, encs, encB, isBox, backN, hpBack, killsV, killsS, killsS.ks, killsB, rowsOf, without, keysOk, noTup, boxesOk, fresh, Option.isNone_none, Blk.ren, aloOk, aloV, aloB, frzL, freezes, Go.Proofs.YtbkemldecbcfhaaDoorR.freeze, drop1, S.frz, S.frz.sf, V.frz, Blk.frz, slMent, pickL, List.map_append, S.kill, S.kill.sk, V.kill, Blk.kill, eqvs, ones, Bool.not_true, Bool.not_false, decide_true, decide_false, List.length_append, Int.le_refl, Int.toNat_natCast, Int.toNat_one, Int.cast_ofNat_Int, List.all_nil, List.contains_cons, Nat.reduceBEq, Bool.false_or, Bool.or_false, Bool.true_or, Bool.or_true, look_hit, look_end, look_miss, List.map_cons, List.map_nil, List.cons_append, List.nil_append, Option.getD_some, Option.getD_none, X.ev, ev, bin, ibin, Option.map_some, Option.map_none, Option.bind_some, S.cells, rd, sub, Go.Proofs.YtbkemldecbcfhaaDoorR.shape, asI, bnd, evs, Rs.ev, R.ev, params, okKey, Nat.reduceAdd, Nat.reduceMul, Nat.reduceDiv, Nat.reduceEqDiff, Nat.reduceLeDiff, Nat.reduceLT, Int.reduceEq, Int.reduceNe, Int.reduceLT, Int.reduceLE, Int.reduceAdd, Int.reduceSub, Int.reduceMul, Int.reduceNeg, Int.reduceToNat, Int.reducePow, Nat.reducePow, Int.toNat_zero, not_false_eq_true, not_true_eq_false, reduceCtorEq, Nat.zero_add, Nat.add_zero, reduceIte, if_true, if_false, Bool.true_eq_false, Bool.false_eq_true, List.length_cons, List.length_nil, and_self, true_and, and_true, List.drop_zero, List.take_succ_cons, List.take_zero, List.drop_succ_cons, Nat.le_refl]
theorem e32 (N d : Nat) (c : Cf) (s : Sp) (hc : okC c = true) : TT N (d + 2) 32 [.agg (eC c), .agg (eP s)] = some (.one (oV (fl nm2 s.t 0 (c.t - 1) 1)), []) := by
  simp only [okC, decide_eq_true_eq] at hc
  have h30 := fun d s n lo hi e => e30 N d s n lo hi e
  have hw : IntKind.i64.wrap (c.t - 1) = c.t - 1 := w64 (by omega)
  rw [t32, F_ev rfl]
  simp only [h30, hw, ↓oV_pur, ↓oV_pur1, ↓oV_hand, ↓oV_live, ↓oV_ment, j32, b32, q32, qq, oo3, go_mkp, go_stp, ments, V.ment, List.isEmpty_nil, oo, pp, lives, V.live, purS, S.pur, V.pur, V.pur1, purs, pur1s, mentS, S.ment, S.ment.smt, ments, V.ment, List.append_nil, Hp.ok64, List.all_nil, List.all_cons, S.purT, S.purT.sp, S.self, V.self, selfs, S.self.sself, Hp.self, S.ren, S.ren.sren, V.ren, Hp.ren, true_or, or_true, false_or, or_false, Bool.and_true, Bool.true_and, Bool.and_false, Bool.false_and, Bool.and_self, hand, handSs, handS, handVs, handV, handBs, upTo, one1, List.contains_nil, List.isEmpty_nil, List.take_length, List.getElem?_cons_zero, List.getElem?_cons_succ, fillV, fillR, setAt, List.set_cons_zero, List.set_cons_succ, List.replicate, evE, asRow, callS, callT, callU, names, dedup, blkMents, Blk.mentB, idxOf, V.mapS, S.mapS, S.mapS.smapS, Blk.mapS, encs, encB, isBox, backN, hpBack, killsV, killsS, killsS.ks, killsB, rowsOf, without, keysOk, noTup, boxesOk, fresh, Option.isNone_none, Blk.ren, aloOk, aloV, aloB, frzL, freezes, Go.Proofs.YtbkemldecbcfhaaDoorR.freeze, drop1, S.frz, S.frz.sf, V.frz, Blk.frz, slMent, pickL, List.map_append, S.kill, S.kill.sk, V.kill, Blk.kill, eqvs, ones, Bool.not_true, Bool.not_false, decide_true, decide_false, List.length_append, Int.le_refl, Int.toNat_natCast, Int.toNat_one, Int.cast_ofNat_Int, List.all_nil, List.contains_cons, Nat.reduceBEq, Bool.false_or, Bool.or_false, Bool.true_or, Bool.or_true, look_hit, look_end, look_miss, List.map_cons, List.map_nil, List.cons_append, List.nil_append, Option.getD_some, Option.getD_none, X.ev, ev, bin, ibin, Option.map_some, Option.map_none, Option.bind_some, S.cells, rd, sub, Go.Proofs.YtbkemldecbcfhaaDoorR.shape, asI, bnd, evs, Rs.ev, R.ev, params, okKey, Nat.reduceAdd, Nat.reduceMul, Nat.reduceDiv, Nat.reduceEqDiff, Nat.reduceLeDiff, Nat.reduceLT, Int.reduceEq, Int.reduceNe, Int.reduceLT, Int.reduceLE, Int.reduceAdd, Int.reduceSub, Int.reduceMul, Int.reduceNeg, Int.reduceToNat, Int.reducePow, Nat.reducePow, Int.toNat_zero, not_false_eq_true, not_true_eq_false, reduceCtorEq, Nat.zero_add, Nat.add_zero, reduceIte, if_true, if_false, Bool.true_eq_false, Bool.false_eq_true, List.length_cons, List.length_nil, and_self, true_and, and_true, List.drop_zero, List.take_succ_cons, List.take_zero, List.drop_succ_cons, Nat.le_refl]
theorem e33 (N d : Nat) (s : ByteArray) (n lo : Int) : TT N (d + 2) 33 [.one (.k (.string s)), iV n, iV lo] = some (.one (oV (fl s n lo 255 1)), []) := by
  have h30 := fun d s n lo hi e => e30 N d s n lo hi e
  rw [t33, F_ev rfl]
  simp only [h30, ↓oV_pur, ↓oV_pur1, ↓oV_hand, ↓oV_live, ↓oV_ment, j33, b33, q33, qq, oo3, go_mkp, go_stp, ments, V.ment, List.isEmpty_nil, oo, pp, lives, V.live, purS, S.pur, V.pur, V.pur1, purs, pur1s, mentS, S.ment, S.ment.smt, ments, V.ment, List.append_nil, Hp.ok64, List.all_nil, List.all_cons, S.purT, S.purT.sp, S.self, V.self, selfs, S.self.sself, Hp.self, S.ren, S.ren.sren, V.ren, Hp.ren, true_or, or_true, false_or, or_false, Bool.and_true, Bool.true_and, Bool.and_false, Bool.false_and, Bool.and_self, hand, handSs, handS, handVs, handV, handBs, upTo, one1, List.contains_nil, List.isEmpty_nil, List.take_length, List.getElem?_cons_zero, List.getElem?_cons_succ, fillV, fillR, setAt, List.set_cons_zero, List.set_cons_succ, List.replicate, evE, asRow, callS, callT, callU, names, dedup, blkMents, Blk.mentB, idxOf, V.mapS, S.mapS, S.mapS.smapS, Blk.mapS, encs, encB, isBox, backN, hpBack, killsV, killsS, killsS.ks, killsB, rowsOf, without, keysOk, noTup, boxesOk, fresh, Option.isNone_none, Blk.ren, aloOk, aloV, aloB, frzL, freezes, Go.Proofs.YtbkemldecbcfhaaDoorR.freeze, drop1, S.frz, S.frz.sf, V.frz, Blk.frz, slMent, pickL, List.map_append, S.kill, S.kill.sk, V.kill, Blk.kill, eqvs, ones, Bool.not_true, Bool.not_false, decide_true, decide_false, List.length_append, Int.le_refl, Int.toNat_natCast, Int.toNat_one, Int.cast_ofNat_Int, List.all_nil, List.contains_cons, Nat.reduceBEq, Bool.false_or, Bool.or_false, Bool.true_or, Bool.or_true, look_hit, look_end, look_miss, List.map_cons, List.map_nil, List.cons_append, List.nil_append, Option.getD_some, Option.getD_none, X.ev, ev, bin, ibin, Option.map_some, Option.map_none, Option.bind_some, S.cells, rd, sub, Go.Proofs.YtbkemldecbcfhaaDoorR.shape, asI, bnd, evs, Rs.ev, R.ev, params, okKey, Nat.reduceAdd, Nat.reduceMul, Nat.reduceDiv, Nat.reduceEqDiff, Nat.reduceLeDiff, Nat.reduceLT, Int.reduceEq, Int.reduceNe, Int.reduceLT, Int.reduceLE, Int.reduceAdd, Int.reduceSub, Int.reduceMul, Int.reduceNeg, Int.reduceToNat, Int.reducePow, Nat.reducePow, Int.toNat_zero, not_false_eq_true, not_true_eq_false, reduceCtorEq, Nat.zero_add, Nat.add_zero, reduceIte, if_true, if_false, Bool.true_eq_false, Bool.false_eq_true, List.length_cons, List.length_nil, and_self, true_and, and_true, List.drop_zero, List.take_succ_cons, List.take_zero, List.drop_succ_cons, Nat.le_refl]
abbrev fN (c : Cf) (s : Sp) : Ow := fl nm1 s.n 0 (c.n - 1) 9
abbrev fT (c : Cf) (s : Sp) : Ow := fl nm2 s.t 0 (c.t - 1) 1
abbrev fV (s : Sp) : Ow := fl nm3 s.v 0 255 1
abbrev fA (s : Sp) : Ow := fl nm4 s.t 0 255 1
abbrev fM (s : Sp) : Ow := fl nm5 s.m 1 255 1
abbrev fK (s : Sp) : Ow := fl nm6 s.k 1 13 1
/-- What a step's fields are asked. -/
def fldL (c : Cf) (s : Sp) : List Ow :=
  if s.k = 1 ∨ s.k = 6 ∨ s.k = 7 then [fN c s]
  else if s.k = 8 ∨ s.k = 9 ∨ s.k = 10 ∨ s.k = 12 ∨ s.k = 13 then [fN c s, fT c s]
  else if s.k = 11 then [fN c s, fT c s, fV s]
  else if s.k = 2 ∨ s.k = 3 ∨ s.k = 4 then [fV s]
  else if s.k = 5 then [fV s, fA s, fM s]
  else [fK s]
def fldV (c : Cf) (s : Sp) : V :=
  if s.k = 1 ∨ s.k = 6 ∨ s.k = 7 then oV (fN c s)
  else if s.k = 8 ∨ s.k = 9 ∨ s.k = 10 ∨ s.k = 12 ∨ s.k = 13 then joinV [fN c s, fT c s]
  else if s.k = 11 then joinV [fN c s, fT c s, fV s]
  else if s.k = 2 ∨ s.k = 3 ∨ s.k = 4 then oV (fV s)
  else if s.k = 5 then joinV [fV s, fA s, fM s]
  else oV (fK s)
theorem kinds (k : Int) : k = 1 ∨ k = 2 ∨ k = 3 ∨ k = 4 ∨ k = 5 ∨ k = 6 ∨ k = 7 ∨ k = 8 ∨ k = 9 ∨ k = 10 ∨ k = 11 ∨ k = 12 ∨ k = 13 ∨ (k < 1 ∨ 13 < k) := by omega
theorem e25 (N d : Nat) (c : Cf) (s : Sp) (hc : okC c = true) (hN : 3 < N) : TT N (d + 3) 25 [.agg (eC c), .agg (eP s)] = some (.one (fldV c s), []) := by
  have h30 := fun d s n lo hi e => e30 N d s n lo hi e
  have h31 := fun d => e31 N d c s hc
  have h32 := fun d => e32 N d c s hc
  have h33 := fun d s n lo => e33 N d s n lo
  have h2 : ∀ d a b, TT N (d + 1) 29 [.one (.row [[oV a], [oV b]])] = some (.one (joinV [a, b]), []) := fun d a b => e29 N d [a, b] (by simp; omega) (by simp)
  have h3 : ∀ d a b c, TT N (d + 1) 29 [.one (.row [[oV a], [oV b], [oV c]])] = some (.one (joinV [a, b, c]), []) := fun d a b c => e29 N d [a, b, c] (by simp; omega) (by simp)
  rw [t25, F_ev rfl]
  obtain ⟨k, n, t, v, m⟩ := s
  rcases kinds k with rfl | rfl | rfl | rfl | rfl | rfl | rfl | rfl | rfl | rfl | rfl | rfl | rfl | hk
  rotate_right
  · have q1 : decide (k = 1) = false := decide_eq_false (by omega)
    have q2 : decide (k = 2) = false := decide_eq_false (by omega)
    have q3 : decide (k = 3) = false := decide_eq_false (by omega)
    have q4 : decide (k = 4) = false := decide_eq_false (by omega)
    have q5 : decide (k = 5) = false := decide_eq_false (by omega)
    have q6 : decide (k = 6) = false := decide_eq_false (by omega)
    have q7 : decide (k = 7) = false := decide_eq_false (by omega)
    have q8 : decide (k = 8) = false := decide_eq_false (by omega)
    have q9 : decide (k = 9) = false := decide_eq_false (by omega)
    have q10 : decide (k = 10) = false := decide_eq_false (by omega)
    have q11 : decide (k = 11) = false := decide_eq_false (by omega)
    have q12 : decide (k = 12) = false := decide_eq_false (by omega)
    have q13 : decide (k = 13) = false := decide_eq_false (by omega)
    have hV : fldV c ⟨k, n, t, v, m⟩ = oV (fK ⟨k, n, t, v, m⟩) := by
      unfold fldV
      dsimp only
      rw [if_neg (by omega), if_neg (by omega), if_neg (by omega), if_neg (by omega), if_neg (by omega)]
    rw [hV]
    simp only [h30, q1, q2, q3, q4, q5, q6, q7, q8, q9, q10, q11, q12, q13, ↓oV_pur, ↓oV_pur1, ↓oV_hand, ↓oV_live, ↓oV_ment, j25, b25, q25, qq, oo3, go_mkp, go_stp, ments, V.ment, List.isEmpty_nil, oo, pp, lives, V.live, purS, S.pur, V.pur, V.pur1, purs, pur1s, mentS, S.ment, S.ment.smt, ments, V.ment, List.append_nil, Hp.ok64, List.all_nil, List.all_cons, S.purT, S.purT.sp, S.self, V.self, selfs, S.self.sself, Hp.self, S.ren, S.ren.sren, V.ren, Hp.ren, true_or, or_true, false_or, or_false, Bool.and_true, Bool.true_and, Bool.and_false, Bool.false_and, Bool.and_self, hand, handSs, handS, handVs, handV, handBs, upTo, one1, List.contains_nil, List.isEmpty_nil, List.take_length, List.getElem?_cons_zero, List.getElem?_cons_succ, fillV, fillR, setAt, List.set_cons_zero, List.set_cons_succ, List.replicate, evE, asRow, callS, callT, callU, names, dedup, blkMents, Blk.mentB, idxOf, V.mapS, S.mapS, S.mapS.smapS, Blk.mapS, encs, encB, isBox, backN, hpBack, killsV, killsS, killsS.ks, killsB, rowsOf, without, keysOk, noTup, boxesOk, fresh, Option.isNone_none, Blk.ren, aloOk, aloV, aloB, frzL, freezes, Go.Proofs.YtbkemldecbcfhaaDoorR.freeze, drop1, S.frz, S.frz.sf, V.frz, Blk.frz, slMent, pickL, List.map_append, S.kill, S.kill.sk, V.kill, Blk.kill, eqvs, ones, Bool.not_true, Bool.not_false, decide_true, decide_false, List.length_append, Int.le_refl, Int.toNat_natCast, Int.toNat_one, Int.cast_ofNat_Int, List.all_nil, List.contains_cons, Nat.reduceBEq, Bool.false_or, Bool.or_false, Bool.true_or, Bool.or_true, look_hit, look_end, look_miss, List.map_cons, List.map_nil, List.cons_append, List.nil_append, Option.getD_some, Option.getD_none, X.ev, ev, bin, ibin, Option.map_some, Option.map_none, Option.bind_some, S.cells, rd, sub, Go.Proofs.YtbkemldecbcfhaaDoorR.shape, asI, bnd, evs, Rs.ev, R.ev, params, okKey, Nat.reduceAdd, Nat.reduceMul, Nat.reduceDiv, Nat.reduceEqDiff, Nat.reduceLeDiff, Nat.reduceLT, Int.reduceEq, Int.reduceNe, Int.reduceLT, Int.reduceLE, Int.reduceAdd, Int.reduceSub, Int.reduceMul, Int.reduceNeg, Int.reduceToNat, Int.reducePow, Nat.reducePow, Int.toNat_zero, not_false_eq_true, not_true_eq_false, reduceCtorEq, Nat.zero_add, Nat.add_zero, reduceIte, if_true, if_false, Bool.true_eq_false, Bool.false_eq_true, List.length_cons, List.length_nil, and_self, true_and, and_true, List.drop_zero, List.take_succ_cons, List.take_zero, List.drop_succ_cons, Nat.le_refl]
  all_goals
    simp only [h30, h31, h32, h33, h2, h3, fldV, or_self, or_true, true_or, or_false, false_or, ↓oV_pur, ↓oV_pur1, ↓oV_hand, ↓oV_live, ↓oV_ment, ↓jo_pur, ↓jo_hand, ↓jo_live, ↓jo_ment, j25, b25, q25, qq, oo3, go_mkp, go_stp, ments, V.ment, List.isEmpty_nil, oo, pp, lives, V.live, purS, S.pur, V.pur, V.pur1, purs, pur1s, mentS, S.ment, S.ment.smt, ments, V.ment, List.append_nil, Hp.ok64, List.all_nil, List.all_cons, S.purT, S.purT.sp, S.self, V.self, selfs, S.self.sself, Hp.self, S.ren, S.ren.sren, V.ren, Hp.ren, true_or, or_true, false_or, or_false, Bool.and_true, Bool.true_and, Bool.and_false, Bool.false_and, Bool.and_self, hand, handSs, handS, handVs, handV, handBs, upTo, one1, List.contains_nil, List.isEmpty_nil, List.take_length, List.getElem?_cons_zero, List.getElem?_cons_succ, fillV, fillR, setAt, List.set_cons_zero, List.set_cons_succ, List.replicate, evE, asRow, callS, callT, callU, names, dedup, blkMents, Blk.mentB, idxOf, V.mapS, S.mapS, S.mapS.smapS, Blk.mapS, encs, encB, isBox, backN, hpBack, killsV, killsS, killsS.ks, killsB, rowsOf, without, keysOk, noTup, boxesOk, fresh, Option.isNone_none, Blk.ren, aloOk, aloV, aloB, frzL, freezes, Go.Proofs.YtbkemldecbcfhaaDoorR.freeze, drop1, S.frz, S.frz.sf, V.frz, Blk.frz, slMent, pickL, List.map_append, S.kill, S.kill.sk, V.kill, Blk.kill, eqvs, ones, Bool.not_true, Bool.not_false, decide_true, decide_false, List.length_append, Int.le_refl, Int.toNat_natCast, Int.toNat_one, Int.cast_ofNat_Int, List.all_nil, List.contains_cons, Nat.reduceBEq, Bool.false_or, Bool.or_false, Bool.true_or, Bool.or_true, look_hit, look_end, look_miss, List.map_cons, List.map_nil, List.cons_append, List.nil_append, Option.getD_some, Option.getD_none, X.ev, ev, bin, ibin, Option.map_some, Option.map_none, Option.bind_some, S.cells, rd, sub, Go.Proofs.YtbkemldecbcfhaaDoorR.shape, asI, bnd, evs, Rs.ev, R.ev, params, okKey, Nat.reduceAdd, Nat.reduceMul, Nat.reduceDiv, Nat.reduceEqDiff, Nat.reduceLeDiff, Nat.reduceLT, Int.reduceEq, Int.reduceNe, Int.reduceLT, Int.reduceLE, Int.reduceAdd, Int.reduceSub, Int.reduceMul, Int.reduceNeg, Int.reduceToNat, Int.reducePow, Nat.reducePow, Int.toNat_zero, not_false_eq_true, not_true_eq_false, reduceCtorEq, Nat.zero_add, Nat.add_zero, reduceIte, if_true, if_false, Bool.true_eq_false, Bool.false_eq_true, List.length_cons, List.length_nil, and_self, true_and, and_true, List.drop_zero, List.take_succ_cons, List.take_zero, List.drop_succ_cons, Nat.le_refl]
theorem errno_f (c : Cf) (s : Sp) : XE.errnoM [.one (fldV c s)] = some (iV (errW (oks (fldL c s))), []) := by
  have h1 : ∀ o : Ow, XE.errnoM [.one (oV o)] = some (iV (errW (oks [o])), []) := fun o => by
    rw [errno_o]
    rcases o with _ | ⟨s, e⟩
    · rfl
    · simp only [oks, List.filterMap_cons, id, List.filterMap_nil, errW, List.map_cons, List.map_nil, List.any_cons, List.any_nil, Bool.or_false, decide_eq_true_eq]
      split
      · rename_i h; rw [h]
      · rfl
  have h2 : ∀ l : List Ow, l.length < 1000 → XE.errnoM [.one (joinV l)] = some (iV (errW (oks l)), []) := fun l h => errno_j l h
  unfold fldV fldL
  split
  · exact h1 _
  · split
    · exact h2 _ (by simp)
    · split
      · exact h2 _ (by simp)
      · split
        · exact h1 _
        · split
          · exact h2 _ (by simp)
          · exact h1 _
theorem fV_pur (c : Cf) (s : Sp) (h : Nat → Option Blk) : V.pur h (fldV c s) = some (fldV c s) := by
  unfold fldV
  repeat' split
  all_goals first | exact oV_pur _ _ | exact jo_pur _ _
theorem fV_ment (c : Cf) (s : Sp) : V.ment (fldV c s) = none := by
  unfold fldV
  repeat' split
  all_goals first | exact oV_ment _ | exact jo_ment _
theorem fV_live (c : Cf) (s : Sp) : V.live (fldV c s) = true := by
  unfold fldV
  repeat' split
  all_goals first | exact oV_live _ | exact jo_live _
/-- What Check says. -/
def chk (c : Cf) (s : Sp) : Int := if okC c then errW (oks (fldL c s)) else 13
theorem e17 (N d : Nat) (c : Cf) (s : Sp) (hN : 7 < N) : TT N (d + 4) 17 [.agg (eC c), .agg (eP s)] = some (iV (chk c s), []) := by
  have h11 := fun d => e11 N d c hN
  rw [t17, F_ev rfl, chk]
  cases hc : okC c with
  | false =>
    rw [hc] at h11
    simp only [h11, Bool.not_false, j17, b17, q17, qq, oo3, go_mkp, go_stp, ments, V.ment, List.isEmpty_nil, oo, pp, lives, V.live, purS, S.pur, V.pur, V.pur1, purs, pur1s, mentS, S.ment, S.ment.smt, ments, V.ment, List.append_nil, Hp.ok64, List.all_nil, List.all_cons, S.purT, S.purT.sp, S.self, V.self, selfs, S.self.sself, Hp.self, S.ren, S.ren.sren, V.ren, Hp.ren, true_or, or_true, false_or, or_false, Bool.and_true, Bool.true_and, Bool.and_false, Bool.false_and, Bool.and_self, hand, handSs, handS, handVs, handV, handBs, upTo, one1, List.contains_nil, List.isEmpty_nil, List.take_length, List.getElem?_cons_zero, List.getElem?_cons_succ, fillV, fillR, setAt, List.set_cons_zero, List.set_cons_succ, List.replicate, evE, asRow, callS, callT, callU, names, dedup, blkMents, Blk.mentB, idxOf, V.mapS, S.mapS, S.mapS.smapS, Blk.mapS, encs, encB, isBox, backN, hpBack, killsV, killsS, killsS.ks, killsB, rowsOf, without, keysOk, noTup, boxesOk, fresh, Option.isNone_none, Blk.ren, aloOk, aloV, aloB, frzL, freezes, Go.Proofs.YtbkemldecbcfhaaDoorR.freeze, drop1, S.frz, S.frz.sf, V.frz, Blk.frz, slMent, pickL, List.map_append, S.kill, S.kill.sk, V.kill, Blk.kill, eqvs, ones, Bool.not_true, Bool.not_false, decide_true, decide_false, List.length_append, Int.le_refl, Int.toNat_natCast, Int.toNat_one, Int.cast_ofNat_Int, List.all_nil, List.contains_cons, Nat.reduceBEq, Bool.false_or, Bool.or_false, Bool.true_or, Bool.or_true, look_hit, look_end, look_miss, List.map_cons, List.map_nil, List.cons_append, List.nil_append, Option.getD_some, Option.getD_none, X.ev, ev, bin, ibin, Option.map_some, Option.map_none, Option.bind_some, S.cells, rd, sub, Go.Proofs.YtbkemldecbcfhaaDoorR.shape, asI, bnd, evs, Rs.ev, R.ev, params, okKey, Nat.reduceAdd, Nat.reduceMul, Nat.reduceDiv, Nat.reduceEqDiff, Nat.reduceLeDiff, Nat.reduceLT, Int.reduceEq, Int.reduceNe, Int.reduceLT, Int.reduceLE, Int.reduceAdd, Int.reduceSub, Int.reduceMul, Int.reduceNeg, Int.reduceToNat, Int.reducePow, Nat.reducePow, Int.toNat_zero, not_false_eq_true, not_true_eq_false, reduceCtorEq, Nat.zero_add, Nat.add_zero, reduceIte, if_true, if_false, Bool.true_eq_false, Bool.false_eq_true, List.length_cons, List.length_nil, and_self, true_and, and_true, List.drop_zero, List.take_succ_cons, List.take_zero, List.drop_succ_cons, Nat.le_refl]
  | true =>
    rw [hc] at h11
    have h25 := fun d => e25 N d c s hc (by omega)
    have h23 : ∀ d, TT N (d + 1) 23 [.one (fldV c s)] = some (iV (errW (oks (fldL c s))), []) := fun d => by rw [t23, errno_f]
    simp only [h11, h25, h23, ↓fV_pur, ↓fV_ment, ↓fV_live, Bool.not_true, j17, b17, q17, qq, oo3, go_mkp, go_stp, ments, V.ment, List.isEmpty_nil, oo, pp, lives, V.live, purS, S.pur, V.pur, V.pur1, purs, pur1s, mentS, S.ment, S.ment.smt, ments, V.ment, List.append_nil, Hp.ok64, List.all_nil, List.all_cons, S.purT, S.purT.sp, S.self, V.self, selfs, S.self.sself, Hp.self, S.ren, S.ren.sren, V.ren, Hp.ren, true_or, or_true, false_or, or_false, Bool.and_true, Bool.true_and, Bool.and_false, Bool.false_and, Bool.and_self, hand, handSs, handS, handVs, handV, handBs, upTo, one1, List.contains_nil, List.isEmpty_nil, List.take_length, List.getElem?_cons_zero, List.getElem?_cons_succ, fillV, fillR, setAt, List.set_cons_zero, List.set_cons_succ, List.replicate, evE, asRow, callS, callT, callU, names, dedup, blkMents, Blk.mentB, idxOf, V.mapS, S.mapS, S.mapS.smapS, Blk.mapS, encs, encB, isBox, backN, hpBack, killsV, killsS, killsS.ks, killsB, rowsOf, without, keysOk, noTup, boxesOk, fresh, Option.isNone_none, Blk.ren, aloOk, aloV, aloB, frzL, freezes, Go.Proofs.YtbkemldecbcfhaaDoorR.freeze, drop1, S.frz, S.frz.sf, V.frz, Blk.frz, slMent, pickL, List.map_append, S.kill, S.kill.sk, V.kill, Blk.kill, eqvs, ones, Bool.not_true, Bool.not_false, decide_true, decide_false, List.length_append, Int.le_refl, Int.toNat_natCast, Int.toNat_one, Int.cast_ofNat_Int, List.all_nil, List.contains_cons, Nat.reduceBEq, Bool.false_or, Bool.or_false, Bool.true_or, Bool.or_true, look_hit, look_end, look_miss, List.map_cons, List.map_nil, List.cons_append, List.nil_append, Option.getD_some, Option.getD_none, X.ev, ev, bin, ibin, Option.map_some, Option.map_none, Option.bind_some, S.cells, rd, sub, Go.Proofs.YtbkemldecbcfhaaDoorR.shape, asI, bnd, evs, Rs.ev, R.ev, params, okKey, Nat.reduceAdd, Nat.reduceMul, Nat.reduceDiv, Nat.reduceEqDiff, Nat.reduceLeDiff, Nat.reduceLT, Int.reduceEq, Int.reduceNe, Int.reduceLT, Int.reduceLE, Int.reduceAdd, Int.reduceSub, Int.reduceMul, Int.reduceNeg, Int.reduceToNat, Int.reducePow, Nat.reducePow, Int.toNat_zero, not_false_eq_true, not_true_eq_false, reduceCtorEq, Nat.zero_add, Nat.add_zero, reduceIte, if_true, if_false, Bool.true_eq_false, Bool.false_eq_true, List.length_cons, List.length_nil, and_self, true_and, and_true, List.drop_zero, List.take_succ_cons, List.take_zero, List.drop_succ_cons, Nat.le_refl]
end Go.Proofs.YtbkemldecbcfhaaDoor.EC
