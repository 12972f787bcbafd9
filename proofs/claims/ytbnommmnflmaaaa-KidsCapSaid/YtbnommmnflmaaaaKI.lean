import Derived.Test.YtbnommmnflmaaaaKH
set_option linter.unusedSimpArgs false
set_option linter.unusedVariables false
namespace Go.Proofs.Ytbnommmnflmaaaa.KA
open Go Go.Proofs.YtbnommmnflmaaaaR Go.Proofs.Ytbnommmnflmaaaa.IK
set_option maxRecDepth 100000
set_option maxHeartbeats 4000000
theorem w0 : TT 1000 12 15 [] = some (bV true, []) := by kernel_rfl
theorem e14r (d : Nat) (a : List Kd) (hN : a.length < 1000) : TT 1000 (d + 1) 14 [.one (rK a), .one (rK a)] = some (bV true, []) := by rw [e14 1000 d a a hN (by omega)]; simp
theorem askP_len (t self limit : Int) (l : List Kd) (n inc : Int) : (askP t self limit l n inc).1.length ≤ l.length + 1 := by
  unfold askP
  split
  · simp
  · unfold askT
    split
    · simp
    · split
      · simp [insP_len]
      · split
        · simp
        · split
          · simp
          · simp [insP_len]
theorem oldr_le (l : List Kd) : (oldr l).length ≤ l.length := by
  have := oldr_len l l.length
  rwa [List.take_length] at this
theorem eqb_self (b : Bool) : (b != b) = false := by cases b <;> rfl
theorem e7 (t self limit : Int) (l : List Kd) (n inc : Int) : TT 1000 13 7 [iV t, iV self, iV limit, .one (rK l), iV n, iV inc] = some (bV true, []) := by
  rw [t7, F_ev rfl]
  cases h20 : decide ((l.length : Int) > 20) with
  | true => simp only [h20, List.length_map, j7, b7, q7, qq, oo, pp, lives, V.live, purS, S.pur, V.pur, V.pur1, purs, pur1s, mentS, S.ment, S.ment.smt, ments, V.ment, List.append_nil, Hp.ok64, List.all_nil, List.all_cons, S.purT, S.purT.sp, S.self, V.self, selfs, S.self.sself, Hp.self, S.ren, S.ren.sren, V.ren, Hp.ren, true_or, or_true, false_or, or_false, Bool.and_true, Bool.true_and, Bool.and_false, Bool.false_and, Bool.and_self, hand, handSs, handS, handVs, handV, handBs, upTo, one1, List.contains_nil, List.isEmpty_nil, List.take_length, List.getElem?_cons_zero, List.getElem?_cons_succ, fillV, fillR, setAt, List.set_cons_zero, List.set_cons_succ, List.replicate, evE, asRow, callS, callT, callU, names, dedup, blkMents, Blk.mentB, idxOf, V.mapS, S.mapS, S.mapS.smapS, Blk.mapS, encs, encB, isBox, backN, hpBack, killsV, killsS, killsS.ks, killsB, rowsOf, without, keysOk, noTup, boxesOk, fresh, Option.isNone_none, Blk.ren, aloOk, aloV, aloB, frzL, freezes, Go.Proofs.YtbnommmnflmaaaaR.freeze, drop1, S.frz, S.frz.sf, V.frz, Blk.frz, slMent, pickL, List.map_append, S.kill, S.kill.sk, V.kill, Blk.kill, eqvs, ones, Bool.not_true, Bool.not_false, decide_true, decide_false, List.length_append, Int.le_refl, Int.toNat_natCast, Int.toNat_one, Int.cast_ofNat_Int, List.all_nil, List.contains_cons, Nat.reduceBEq, Bool.false_or, Bool.or_false, Bool.true_or, Bool.or_true, look_hit, look_end, look_miss, List.map_cons, List.map_nil, List.cons_append, List.nil_append, Option.getD_some, Option.getD_none, X.ev, ev, bin, ibin, Option.map_some, Option.map_none, Option.bind_some, S.cells, rd, sub, Go.Proofs.YtbnommmnflmaaaaR.shape, asI, bnd, evs, Rs.ev, R.ev, params, okKey, Nat.reduceAdd, Nat.reduceMul, Nat.reduceDiv, Nat.reduceEqDiff, Nat.reduceLeDiff, Nat.reduceLT, Int.reduceEq, Int.reduceNe, Int.reduceLT, Int.reduceLE, Int.reduceAdd, Int.reduceSub, Int.reduceMul, Int.reduceNeg, Int.reduceToNat, Int.reducePow, Nat.reducePow, Int.toNat_zero, not_false_eq_true, not_true_eq_false, reduceCtorEq, Nat.zero_add, Nat.add_zero, reduceIte, if_true, if_false, Bool.true_eq_false, Bool.false_eq_true, List.length_cons, List.length_nil, and_self, true_and, and_true, List.drop_zero, List.take_succ_cons, List.take_zero, List.drop_succ_cons, Nat.le_refl]
  | false =>
  have hl : l.length ≤ 20 := by simp at h20; omega
  have h19 := fun d => e19 1000 d l (by omega)
  have h10 := fun d => e10 1000 d t self limit l n inc (by omega) (by omega)
  have hO := fun d => e20 1000 d t self limit l (by omega) (by omega)
  have h18 := fun d => e18 1000 d l n (by omega) (by omega)
  have h21 := fun d => e21 1000 d l n (by omega) (by omega)
  have h12 := fun d => e12 1000 d l n (by omega) (by omega)
  have h22 := fun d => e22 1000 d l n (by omega) (by omega)
  have hdr := fun d => e14r d (drp l n) (by have := drp_len l n; omega)
  have hll := fun d => e14r d l (by omega)
  have h16 := fun d => e16 1000 d t self limit l (by omega) (by omega)
  have h13 := fun d => e13 1000 d t self limit l (by omega) (by omega)
  have hw0 := w0
  have hz0 : IntKind.i64.wrap 0 = 0 := by decide
  cases hk : kOK t self limit l with
  | false =>
    rw [hk] at h16 h13 hO
    rw [show askP t self limit l n inc = ([], 0, 0, 1) by simp [askP, hk]] at h10
    cases hh : hasN l n with
    | true =>
      rw [hh] at h12 h22
      simp only [h20, h19, h10, hO, h18, h21, h12, h22, hdr, hll, h16, h13, hw0, hz0, takeK, List.length_map, j7, b7, q7, qq, oo, pp, lives, V.live, purS, S.pur, V.pur, V.pur1, purs, pur1s, mentS, S.ment, S.ment.smt, ments, V.ment, List.append_nil, Hp.ok64, List.all_nil, List.all_cons, S.purT, S.purT.sp, S.self, V.self, selfs, S.self.sself, Hp.self, S.ren, S.ren.sren, V.ren, Hp.ren, true_or, or_true, false_or, or_false, Bool.and_true, Bool.true_and, Bool.and_false, Bool.false_and, Bool.and_self, hand, handSs, handS, handVs, handV, handBs, upTo, one1, List.contains_nil, List.isEmpty_nil, List.take_length, List.getElem?_cons_zero, List.getElem?_cons_succ, fillV, fillR, setAt, List.set_cons_zero, List.set_cons_succ, List.replicate, evE, asRow, callS, callT, callU, names, dedup, blkMents, Blk.mentB, idxOf, V.mapS, S.mapS, S.mapS.smapS, Blk.mapS, encs, encB, isBox, backN, hpBack, killsV, killsS, killsS.ks, killsB, rowsOf, without, keysOk, noTup, boxesOk, fresh, Option.isNone_none, Blk.ren, aloOk, aloV, aloB, frzL, freezes, Go.Proofs.YtbnommmnflmaaaaR.freeze, drop1, S.frz, S.frz.sf, V.frz, Blk.frz, slMent, pickL, List.map_append, S.kill, S.kill.sk, V.kill, Blk.kill, eqvs, ones, Bool.not_true, Bool.not_false, decide_true, decide_false, List.length_append, Int.le_refl, Int.toNat_natCast, Int.toNat_one, Int.cast_ofNat_Int, List.all_nil, List.contains_cons, Nat.reduceBEq, Bool.false_or, Bool.or_false, Bool.true_or, Bool.or_true, look_hit, look_end, look_miss, List.map_cons, List.map_nil, List.cons_append, List.nil_append, Option.getD_some, Option.getD_none, X.ev, ev, bin, ibin, Option.map_some, Option.map_none, Option.bind_some, S.cells, rd, sub, Go.Proofs.YtbnommmnflmaaaaR.shape, asI, bnd, evs, Rs.ev, R.ev, params, okKey, Nat.reduceAdd, Nat.reduceMul, Nat.reduceDiv, Nat.reduceEqDiff, Nat.reduceLeDiff, Nat.reduceLT, Int.reduceEq, Int.reduceNe, Int.reduceLT, Int.reduceLE, Int.reduceAdd, Int.reduceSub, Int.reduceMul, Int.reduceNeg, Int.reduceToNat, Int.reducePow, Nat.reducePow, Int.toNat_zero, not_false_eq_true, not_true_eq_false, reduceCtorEq, Nat.zero_add, Nat.add_zero, reduceIte, if_true, if_false, Bool.true_eq_false, Bool.false_eq_true, List.length_cons, List.length_nil, and_self, true_and, and_true, List.drop_zero, List.take_succ_cons, List.take_zero, List.drop_succ_cons, Nat.le_refl]
    | false =>
      rw [hh] at h12 h22
      simp only [h20, h19, h10, hO, h18, h21, h12, h22, hdr, hll, h16, h13, hw0, hz0, takeK, List.length_map, j7, b7, q7, qq, oo, pp, lives, V.live, purS, S.pur, V.pur, V.pur1, purs, pur1s, mentS, S.ment, S.ment.smt, ments, V.ment, List.append_nil, Hp.ok64, List.all_nil, List.all_cons, S.purT, S.purT.sp, S.self, V.self, selfs, S.self.sself, Hp.self, S.ren, S.ren.sren, V.ren, Hp.ren, true_or, or_true, false_or, or_false, Bool.and_true, Bool.true_and, Bool.and_false, Bool.false_and, Bool.and_self, hand, handSs, handS, handVs, handV, handBs, upTo, one1, List.contains_nil, List.isEmpty_nil, List.take_length, List.getElem?_cons_zero, List.getElem?_cons_succ, fillV, fillR, setAt, List.set_cons_zero, List.set_cons_succ, List.replicate, evE, asRow, callS, callT, callU, names, dedup, blkMents, Blk.mentB, idxOf, V.mapS, S.mapS, S.mapS.smapS, Blk.mapS, encs, encB, isBox, backN, hpBack, killsV, killsS, killsS.ks, killsB, rowsOf, without, keysOk, noTup, boxesOk, fresh, Option.isNone_none, Blk.ren, aloOk, aloV, aloB, frzL, freezes, Go.Proofs.YtbnommmnflmaaaaR.freeze, drop1, S.frz, S.frz.sf, V.frz, Blk.frz, slMent, pickL, List.map_append, S.kill, S.kill.sk, V.kill, Blk.kill, eqvs, ones, Bool.not_true, Bool.not_false, decide_true, decide_false, List.length_append, Int.le_refl, Int.toNat_natCast, Int.toNat_one, Int.cast_ofNat_Int, List.all_nil, List.contains_cons, Nat.reduceBEq, Bool.false_or, Bool.or_false, Bool.true_or, Bool.or_true, look_hit, look_end, look_miss, List.map_cons, List.map_nil, List.cons_append, List.nil_append, Option.getD_some, Option.getD_none, X.ev, ev, bin, ibin, Option.map_some, Option.map_none, Option.bind_some, S.cells, rd, sub, Go.Proofs.YtbnommmnflmaaaaR.shape, asI, bnd, evs, Rs.ev, R.ev, params, okKey, Nat.reduceAdd, Nat.reduceMul, Nat.reduceDiv, Nat.reduceEqDiff, Nat.reduceLeDiff, Nat.reduceLT, Int.reduceEq, Int.reduceNe, Int.reduceLT, Int.reduceLE, Int.reduceAdd, Int.reduceSub, Int.reduceMul, Int.reduceNeg, Int.reduceToNat, Int.reducePow, Nat.reducePow, Int.toNat_zero, not_false_eq_true, not_true_eq_false, reduceCtorEq, Nat.zero_add, Nat.add_zero, reduceIte, if_true, if_false, Bool.true_eq_false, Bool.false_eq_true, List.length_cons, List.length_nil, and_self, true_and, and_true, List.drop_zero, List.take_succ_cons, List.take_zero, List.drop_succ_cons, Nat.le_refl]
  | true =>
  rw [hk] at h16 h13 hO
  have hok := kOK_t hk
  have h23 := fun d => e23 1000 d l (fun y hy => by
    have := (chn_all hok.2.2.2.2.2 y hy).2
    simp only [inc2, Bool.and_eq_true] at this
    exact inB_t this.2) (by omega) (by omega)
  have hol := fun d => e14r d (oldr l) (by have := oldr_le l; omega)
  have h24 := fun d => e24 1000 d t self n inc
  have halen := askP_len t self limit l n inc
  cases hm : (nr t self n && inB inc 1 1073741824) with
  | false =>
    rw [hm] at h24
    rw [show askP t self limit l n inc = ([], 0, 0, 1) by unfold askP; rw [Bool.and_assoc, hm, Bool.and_false]; rfl] at h10
    cases hh : hasN l n with
    | true =>
      rw [hh] at h12 h22
      simp only [h20, h19, h10, hO, h18, h21, h12, h22, h23, h24, hdr, hll, hol, h16, h13, hw0, hz0, takeK, List.length_map, j7, b7, q7, qq, oo, pp, lives, V.live, purS, S.pur, V.pur, V.pur1, purs, pur1s, mentS, S.ment, S.ment.smt, ments, V.ment, List.append_nil, Hp.ok64, List.all_nil, List.all_cons, S.purT, S.purT.sp, S.self, V.self, selfs, S.self.sself, Hp.self, S.ren, S.ren.sren, V.ren, Hp.ren, true_or, or_true, false_or, or_false, Bool.and_true, Bool.true_and, Bool.and_false, Bool.false_and, Bool.and_self, hand, handSs, handS, handVs, handV, handBs, upTo, one1, List.contains_nil, List.isEmpty_nil, List.take_length, List.getElem?_cons_zero, List.getElem?_cons_succ, fillV, fillR, setAt, List.set_cons_zero, List.set_cons_succ, List.replicate, evE, asRow, callS, callT, callU, names, dedup, blkMents, Blk.mentB, idxOf, V.mapS, S.mapS, S.mapS.smapS, Blk.mapS, encs, encB, isBox, backN, hpBack, killsV, killsS, killsS.ks, killsB, rowsOf, without, keysOk, noTup, boxesOk, fresh, Option.isNone_none, Blk.ren, aloOk, aloV, aloB, frzL, freezes, Go.Proofs.YtbnommmnflmaaaaR.freeze, drop1, S.frz, S.frz.sf, V.frz, Blk.frz, slMent, pickL, List.map_append, S.kill, S.kill.sk, V.kill, Blk.kill, eqvs, ones, Bool.not_true, Bool.not_false, decide_true, decide_false, List.length_append, Int.le_refl, Int.toNat_natCast, Int.toNat_one, Int.cast_ofNat_Int, List.all_nil, List.contains_cons, Nat.reduceBEq, Bool.false_or, Bool.or_false, Bool.true_or, Bool.or_true, look_hit, look_end, look_miss, List.map_cons, List.map_nil, List.cons_append, List.nil_append, Option.getD_some, Option.getD_none, X.ev, ev, bin, ibin, Option.map_some, Option.map_none, Option.bind_some, S.cells, rd, sub, Go.Proofs.YtbnommmnflmaaaaR.shape, asI, bnd, evs, Rs.ev, R.ev, params, okKey, Nat.reduceAdd, Nat.reduceMul, Nat.reduceDiv, Nat.reduceEqDiff, Nat.reduceLeDiff, Nat.reduceLT, Int.reduceEq, Int.reduceNe, Int.reduceLT, Int.reduceLE, Int.reduceAdd, Int.reduceSub, Int.reduceMul, Int.reduceNeg, Int.reduceToNat, Int.reducePow, Nat.reducePow, Int.toNat_zero, not_false_eq_true, not_true_eq_false, reduceCtorEq, Nat.zero_add, Nat.add_zero, reduceIte, if_true, if_false, Bool.true_eq_false, Bool.false_eq_true, List.length_cons, List.length_nil, and_self, true_and, and_true, List.drop_zero, List.take_succ_cons, List.take_zero, List.drop_succ_cons, Nat.le_refl]
    | false =>
      rw [hh] at h12 h22
      simp only [h20, h19, h10, hO, h18, h21, h12, h22, h23, h24, hdr, hll, hol, h16, h13, hw0, hz0, takeK, List.length_map, j7, b7, q7, qq, oo, pp, lives, V.live, purS, S.pur, V.pur, V.pur1, purs, pur1s, mentS, S.ment, S.ment.smt, ments, V.ment, List.append_nil, Hp.ok64, List.all_nil, List.all_cons, S.purT, S.purT.sp, S.self, V.self, selfs, S.self.sself, Hp.self, S.ren, S.ren.sren, V.ren, Hp.ren, true_or, or_true, false_or, or_false, Bool.and_true, Bool.true_and, Bool.and_false, Bool.false_and, Bool.and_self, hand, handSs, handS, handVs, handV, handBs, upTo, one1, List.contains_nil, List.isEmpty_nil, List.take_length, List.getElem?_cons_zero, List.getElem?_cons_succ, fillV, fillR, setAt, List.set_cons_zero, List.set_cons_succ, List.replicate, evE, asRow, callS, callT, callU, names, dedup, blkMents, Blk.mentB, idxOf, V.mapS, S.mapS, S.mapS.smapS, Blk.mapS, encs, encB, isBox, backN, hpBack, killsV, killsS, killsS.ks, killsB, rowsOf, without, keysOk, noTup, boxesOk, fresh, Option.isNone_none, Blk.ren, aloOk, aloV, aloB, frzL, freezes, Go.Proofs.YtbnommmnflmaaaaR.freeze, drop1, S.frz, S.frz.sf, V.frz, Blk.frz, slMent, pickL, List.map_append, S.kill, S.kill.sk, V.kill, Blk.kill, eqvs, ones, Bool.not_true, Bool.not_false, decide_true, decide_false, List.length_append, Int.le_refl, Int.toNat_natCast, Int.toNat_one, Int.cast_ofNat_Int, List.all_nil, List.contains_cons, Nat.reduceBEq, Bool.false_or, Bool.or_false, Bool.true_or, Bool.or_true, look_hit, look_end, look_miss, List.map_cons, List.map_nil, List.cons_append, List.nil_append, Option.getD_some, Option.getD_none, X.ev, ev, bin, ibin, Option.map_some, Option.map_none, Option.bind_some, S.cells, rd, sub, Go.Proofs.YtbnommmnflmaaaaR.shape, asI, bnd, evs, Rs.ev, R.ev, params, okKey, Nat.reduceAdd, Nat.reduceMul, Nat.reduceDiv, Nat.reduceEqDiff, Nat.reduceLeDiff, Nat.reduceLT, Int.reduceEq, Int.reduceNe, Int.reduceLT, Int.reduceLE, Int.reduceAdd, Int.reduceSub, Int.reduceMul, Int.reduceNeg, Int.reduceToNat, Int.reducePow, Nat.reducePow, Int.toNat_zero, not_false_eq_true, not_true_eq_false, reduceCtorEq, Nat.zero_add, Nat.add_zero, reduceIte, if_true, if_false, Bool.true_eq_false, Bool.false_eq_true, List.length_cons, List.length_nil, and_self, true_and, and_true, List.drop_zero, List.take_succ_cons, List.take_zero, List.drop_succ_cons, Nat.le_refl]
  | true =>
    have hmm := Bool.and_eq_true_iff.1 hm
    rw [hm] at h24
    have hask : askP t self limit l n inc = ((askR t limit l n inc).1, (askR t limit l n inc).2.1, (askR t limit l n inc).2.2, 0) := by
      rw [← ask_eq hk hmm.1]
      unfold askP
      rw [hk, hmm.1, hmm.2]
      rfl
    have h25 := fun d => e25 1000 d hk hmm.1 (inc := inc) (by omega)
    rw [hask] at h10 halen
    generalize hR : askR t limit l n inc = R at *
    obtain ⟨m, p, q⟩ := R
    (try dsimp only at h10 h25 halen)
    have hmm2 := fun d => e14r d m (by omega)
    have hdd : ∀ a : Int, decide (a = a) = true := fun a => by simp
    cases hh : hasN l n with
    | true =>
      rw [hh] at h12 h22
      simp only [h20, h19, h10, hO, h18, h21, h12, h22, h23, h24, h25, hdr, hll, hol, hmm2, h16, h13, hw0, hz0, hdd, takeK, List.length_map, j7, b7, q7, qq, oo, pp, lives, V.live, purS, S.pur, V.pur, V.pur1, purs, pur1s, mentS, S.ment, S.ment.smt, ments, V.ment, List.append_nil, Hp.ok64, List.all_nil, List.all_cons, S.purT, S.purT.sp, S.self, V.self, selfs, S.self.sself, Hp.self, S.ren, S.ren.sren, V.ren, Hp.ren, true_or, or_true, false_or, or_false, Bool.and_true, Bool.true_and, Bool.and_false, Bool.false_and, Bool.and_self, hand, handSs, handS, handVs, handV, handBs, upTo, one1, List.contains_nil, List.isEmpty_nil, List.take_length, List.getElem?_cons_zero, List.getElem?_cons_succ, fillV, fillR, setAt, List.set_cons_zero, List.set_cons_succ, List.replicate, evE, asRow, callS, callT, callU, names, dedup, blkMents, Blk.mentB, idxOf, V.mapS, S.mapS, S.mapS.smapS, Blk.mapS, encs, encB, isBox, backN, hpBack, killsV, killsS, killsS.ks, killsB, rowsOf, without, keysOk, noTup, boxesOk, fresh, Option.isNone_none, Blk.ren, aloOk, aloV, aloB, frzL, freezes, Go.Proofs.YtbnommmnflmaaaaR.freeze, drop1, S.frz, S.frz.sf, V.frz, Blk.frz, slMent, pickL, List.map_append, S.kill, S.kill.sk, V.kill, Blk.kill, eqvs, ones, Bool.not_true, Bool.not_false, decide_true, decide_false, List.length_append, Int.le_refl, Int.toNat_natCast, Int.toNat_one, Int.cast_ofNat_Int, List.all_nil, List.contains_cons, Nat.reduceBEq, Bool.false_or, Bool.or_false, Bool.true_or, Bool.or_true, look_hit, look_end, look_miss, List.map_cons, List.map_nil, List.cons_append, List.nil_append, Option.getD_some, Option.getD_none, X.ev, ev, bin, ibin, Option.map_some, Option.map_none, Option.bind_some, S.cells, rd, sub, Go.Proofs.YtbnommmnflmaaaaR.shape, asI, bnd, evs, Rs.ev, R.ev, params, okKey, Nat.reduceAdd, Nat.reduceMul, Nat.reduceDiv, Nat.reduceEqDiff, Nat.reduceLeDiff, Nat.reduceLT, Int.reduceEq, Int.reduceNe, Int.reduceLT, Int.reduceLE, Int.reduceAdd, Int.reduceSub, Int.reduceMul, Int.reduceNeg, Int.reduceToNat, Int.reducePow, Nat.reducePow, Int.toNat_zero, not_false_eq_true, not_true_eq_false, reduceCtorEq, Nat.zero_add, Nat.add_zero, reduceIte, if_true, if_false, Bool.true_eq_false, Bool.false_eq_true, List.length_cons, List.length_nil, and_self, true_and, and_true, List.drop_zero, List.take_succ_cons, List.take_zero, List.drop_succ_cons, Nat.le_refl]
    | false =>
      rw [hh] at h12 h22
      simp only [h20, h19, h10, hO, h18, h21, h12, h22, h23, h24, h25, hdr, hll, hol, hmm2, h16, h13, hw0, hz0, hdd, takeK, List.length_map, j7, b7, q7, qq, oo, pp, lives, V.live, purS, S.pur, V.pur, V.pur1, purs, pur1s, mentS, S.ment, S.ment.smt, ments, V.ment, List.append_nil, Hp.ok64, List.all_nil, List.all_cons, S.purT, S.purT.sp, S.self, V.self, selfs, S.self.sself, Hp.self, S.ren, S.ren.sren, V.ren, Hp.ren, true_or, or_true, false_or, or_false, Bool.and_true, Bool.true_and, Bool.and_false, Bool.false_and, Bool.and_self, hand, handSs, handS, handVs, handV, handBs, upTo, one1, List.contains_nil, List.isEmpty_nil, List.take_length, List.getElem?_cons_zero, List.getElem?_cons_succ, fillV, fillR, setAt, List.set_cons_zero, List.set_cons_succ, List.replicate, evE, asRow, callS, callT, callU, names, dedup, blkMents, Blk.mentB, idxOf, V.mapS, S.mapS, S.mapS.smapS, Blk.mapS, encs, encB, isBox, backN, hpBack, killsV, killsS, killsS.ks, killsB, rowsOf, without, keysOk, noTup, boxesOk, fresh, Option.isNone_none, Blk.ren, aloOk, aloV, aloB, frzL, freezes, Go.Proofs.YtbnommmnflmaaaaR.freeze, drop1, S.frz, S.frz.sf, V.frz, Blk.frz, slMent, pickL, List.map_append, S.kill, S.kill.sk, V.kill, Blk.kill, eqvs, ones, Bool.not_true, Bool.not_false, decide_true, decide_false, List.length_append, Int.le_refl, Int.toNat_natCast, Int.toNat_one, Int.cast_ofNat_Int, List.all_nil, List.contains_cons, Nat.reduceBEq, Bool.false_or, Bool.or_false, Bool.true_or, Bool.or_true, look_hit, look_end, look_miss, List.map_cons, List.map_nil, List.cons_append, List.nil_append, Option.getD_some, Option.getD_none, X.ev, ev, bin, ibin, Option.map_some, Option.map_none, Option.bind_some, S.cells, rd, sub, Go.Proofs.YtbnommmnflmaaaaR.shape, asI, bnd, evs, Rs.ev, R.ev, params, okKey, Nat.reduceAdd, Nat.reduceMul, Nat.reduceDiv, Nat.reduceEqDiff, Nat.reduceLeDiff, Nat.reduceLT, Int.reduceEq, Int.reduceNe, Int.reduceLT, Int.reduceLE, Int.reduceAdd, Int.reduceSub, Int.reduceMul, Int.reduceNeg, Int.reduceToNat, Int.reducePow, Nat.reducePow, Int.toNat_zero, not_false_eq_true, not_true_eq_false, reduceCtorEq, Nat.zero_add, Nat.add_zero, reduceIte, if_true, if_false, Bool.true_eq_false, Bool.false_eq_true, List.length_cons, List.length_nil, and_self, true_and, and_true, List.drop_zero, List.take_succ_cons, List.take_zero, List.drop_succ_cons, Nat.le_refl]
end Go.Proofs.Ytbnommmnflmaaaa.KA
