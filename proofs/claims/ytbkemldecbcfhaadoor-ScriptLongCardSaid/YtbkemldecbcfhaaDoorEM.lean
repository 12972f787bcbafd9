import Derived.Test.YtbkemldecbcfhaaDoorEL
set_option linter.unusedSimpArgs false
set_option linter.unusedVariables false
namespace Go.Proofs.YtbkemldecbcfhaaDoor.EC
open Go Go.Proofs.YtbkemldecbcfhaaDoorR Go.Proofs.YtbkemldecbcfhaaDoor.IS Go.Proofs.YtbkemldecbcfhaaDoor.EA
set_option maxRecDepth 100000
set_option maxHeartbeats 4000000
theorem stp_flat : ∀ (l : List Sp), stp (flat l) = l
  | [] => rfl
  | s :: r => by
    have := stp_flat r
    simp only [flat, List.cons_append, List.nil_append, stp, this]
theorem flat_stp : ∀ (n : Nat) (b : List Int), b.length ≤ n → flat (stp b) = b.take (b.length - b.length % 5)
  | n, b, hn => by
    by_cases h : b.length < 5
    · rw [stp_short h, show b.length - b.length % 5 = 0 by omega]; rfl
    · obtain ⟨a0, a1, a2, a3, a4, r, rfl⟩ := five (l := b) (by omega)
      have := flat_stp (n - 5) r (by simp at hn; omega)
      simp only [stp, flat, this]
      rw [show (a0 :: a1 :: a2 :: a3 :: a4 :: r).length - (a0 :: a1 :: a2 :: a3 :: a4 :: r).length % 5 = (r.length - r.length % 5) + 5 by simp only [List.length_cons]; omega]
      rfl
  termination_by n b => b.length
  decreasing_by subst_vars; simp; omega
theorem stp_good : ∀ (n : Nat) (b : List Int), b.length ≤ n → Bs b → (stp b).any badS = false
  | n, b, hn, hb => by
    by_cases h : b.length < 5
    · rw [stp_short h]; rfl
    · obtain ⟨a0, a1, a2, a3, a4, r, rfl⟩ := five (l := b) (by omega)
      have := stp_good (n - 5) r (by simp at hn; omega) (fun y hy => hb y (by simp [hy]))
      have hno : ∀ y ∈ a0 :: a1 :: a2 :: a3 :: a4 :: r, nob y = false := fun y hy => by
        have := hb y hy
        simp only [nob, Bool.or_eq_false_iff, decide_eq_false_iff_not]
        omega
      simp only [stp, List.any_cons, this, badS, List.any_nil, hno a0 (by simp), hno a1 (by simp), hno a2 (by simp), hno a3 (by simp), hno a4 (by simp), Bool.or_self]
  termination_by n b => b.length
  decreasing_by subst_vars; simp; omega
theorem flat_Bs : ∀ (l : List Sp), l.any badS = false → Bs (flat l)
  | [], _ => fun y hy => by cases hy
  | s :: r, h => fun y hy => by
    rw [List.any_cons, Bool.or_eq_false_iff] at h
    rcases List.mem_append.1 hy with h1 | h1
    · have h2 := h.1
      rw [badS, List.any_eq_false] at h2
      exact nob_f (by simpa using h2 y h1)
    · exact flat_Bs r h.2 y h1
theorem cutT (b : List Int) (M : Nat) : (if (0 : Int) = (M : Int) then some (S.one (V.row []), ([] : Hp)) else if ((b.map eU).all fun x => x.length == 1) = true then some (S.one (V.row (List.take M (b.map eU))), []) else none) = some (S.one (rU (b.take M)), []) := by
  rw [allU]
  split
  · rename_i h
    obtain rfl : M = 0 := by omega
    rfl
  · rw [← List.map_take]; rfl
theorem u8w {n : Int} (h : (Lit.int .u8 n).wf = true) : 0 ≤ n ∧ n ≤ 255 := by
  simp [Lit.wf, IntKind.min, IntKind.max, IntKind.signed, IntKind.bits] at h
  omega
theorem e4 (b : List Int) (l : List Sp) (w0_ : b.length * 1 ≤ 140737488351232 ∧ ∀ y ∈ b, (Lit.int .u8 y).wf = true) (w1_ : l.length * 40 ≤ 140737488351232 ∧ ∀ y ∈ l, ((Lit.int .i64 y.k).wf = true ∧ ((Lit.int .i64 y.n).wf = true ∧ ((Lit.int .i64 y.t).wf = true ∧ ((Lit.int .i64 y.v).wf = true ∧ (Lit.int .i64 y.m).wf = true))))) : TT 1000 13 4 [.one (rU b), .one (rP l)] = some (bV true, []) := by
  have hb : Bs b := fun y hy => by
    exact u8w (w0_.2 y hy)
  have hw0 := w0
  rw [t4, F_ev rfl]
  cases h1 : decide ((300 : Int) < (b.length : Int)) with
  | true => simp only [h1, List.length_map, j4, b4, q4, qq, oo3, go_mkp, go_stp, ments, V.ment, List.isEmpty_nil, oo, pp, lives, V.live, purS, S.pur, V.pur, V.pur1, purs, pur1s, mentS, S.ment, S.ment.smt, ments, V.ment, List.append_nil, Hp.ok64, List.all_nil, List.all_cons, S.purT, S.purT.sp, S.self, V.self, selfs, S.self.sself, Hp.self, S.ren, S.ren.sren, V.ren, Hp.ren, true_or, or_true, false_or, or_false, Bool.and_true, Bool.true_and, Bool.and_false, Bool.false_and, Bool.and_self, hand, handSs, handS, handVs, handV, handBs, upTo, one1, List.contains_nil, List.isEmpty_nil, List.take_length, List.getElem?_cons_zero, List.getElem?_cons_succ, fillV, fillR, setAt, List.set_cons_zero, List.set_cons_succ, List.replicate, evE, asRow, callS, callT, callU, names, dedup, blkMents, Blk.mentB, idxOf, V.mapS, S.mapS, S.mapS.smapS, Blk.mapS, encs, encB, isBox, backN, hpBack, killsV, killsS, killsS.ks, killsB, rowsOf, without, keysOk, noTup, boxesOk, fresh, Option.isNone_none, Blk.ren, aloOk, aloV, aloB, frzL, freezes, Go.Proofs.YtbkemldecbcfhaaDoorR.freeze, drop1, S.frz, S.frz.sf, V.frz, Blk.frz, slMent, pickL, List.map_append, S.kill, S.kill.sk, V.kill, Blk.kill, eqvs, ones, Bool.not_true, Bool.not_false, decide_true, decide_false, List.length_append, Int.le_refl, Int.toNat_natCast, Int.toNat_one, Int.cast_ofNat_Int, List.all_nil, List.contains_cons, Nat.reduceBEq, Bool.false_or, Bool.or_false, Bool.true_or, Bool.or_true, look_hit, look_end, look_miss, List.map_cons, List.map_nil, List.cons_append, List.nil_append, Option.getD_some, Option.getD_none, X.ev, ev, bin, ibin, Option.map_some, Option.map_none, Option.bind_some, S.cells, rd, sub, Go.Proofs.YtbkemldecbcfhaaDoorR.shape, asI, bnd, evs, Rs.ev, R.ev, params, okKey, Nat.reduceAdd, Nat.reduceMul, Nat.reduceDiv, Nat.reduceEqDiff, Nat.reduceLeDiff, Nat.reduceLT, Int.reduceEq, Int.reduceNe, Int.reduceLT, Int.reduceLE, Int.reduceAdd, Int.reduceSub, Int.reduceMul, Int.reduceNeg, Int.reduceToNat, Int.reducePow, Nat.reducePow, Int.toNat_zero, not_false_eq_true, not_true_eq_false, reduceCtorEq, Nat.zero_add, Nat.add_zero, reduceIte, if_true, if_false, Bool.true_eq_false, Bool.false_eq_true, List.length_cons, List.length_nil, and_self, true_and, and_true, List.drop_zero, List.take_succ_cons, List.take_zero, List.drop_succ_cons, Nat.le_refl]
  | false =>
  cases h2 : decide ((60 : Int) < (l.length : Int)) with
  | true => simp only [h1, h2, List.length_map, j4, b4, q4, qq, oo3, go_mkp, go_stp, ments, V.ment, List.isEmpty_nil, oo, pp, lives, V.live, purS, S.pur, V.pur, V.pur1, purs, pur1s, mentS, S.ment, S.ment.smt, ments, V.ment, List.append_nil, Hp.ok64, List.all_nil, List.all_cons, S.purT, S.purT.sp, S.self, V.self, selfs, S.self.sself, Hp.self, S.ren, S.ren.sren, V.ren, Hp.ren, true_or, or_true, false_or, or_false, Bool.and_true, Bool.true_and, Bool.and_false, Bool.false_and, Bool.and_self, hand, handSs, handS, handVs, handV, handBs, upTo, one1, List.contains_nil, List.isEmpty_nil, List.take_length, List.getElem?_cons_zero, List.getElem?_cons_succ, fillV, fillR, setAt, List.set_cons_zero, List.set_cons_succ, List.replicate, evE, asRow, callS, callT, callU, names, dedup, blkMents, Blk.mentB, idxOf, V.mapS, S.mapS, S.mapS.smapS, Blk.mapS, encs, encB, isBox, backN, hpBack, killsV, killsS, killsS.ks, killsB, rowsOf, without, keysOk, noTup, boxesOk, fresh, Option.isNone_none, Blk.ren, aloOk, aloV, aloB, frzL, freezes, Go.Proofs.YtbkemldecbcfhaaDoorR.freeze, drop1, S.frz, S.frz.sf, V.frz, Blk.frz, slMent, pickL, List.map_append, S.kill, S.kill.sk, V.kill, Blk.kill, eqvs, ones, Bool.not_true, Bool.not_false, decide_true, decide_false, List.length_append, Int.le_refl, Int.toNat_natCast, Int.toNat_one, Int.cast_ofNat_Int, List.all_nil, List.contains_cons, Nat.reduceBEq, Bool.false_or, Bool.or_false, Bool.true_or, Bool.or_true, look_hit, look_end, look_miss, List.map_cons, List.map_nil, List.cons_append, List.nil_append, Option.getD_some, Option.getD_none, X.ev, ev, bin, ibin, Option.map_some, Option.map_none, Option.bind_some, S.cells, rd, sub, Go.Proofs.YtbkemldecbcfhaaDoorR.shape, asI, bnd, evs, Rs.ev, R.ev, params, okKey, Nat.reduceAdd, Nat.reduceMul, Nat.reduceDiv, Nat.reduceEqDiff, Nat.reduceLeDiff, Nat.reduceLT, Int.reduceEq, Int.reduceNe, Int.reduceLT, Int.reduceLE, Int.reduceAdd, Int.reduceSub, Int.reduceMul, Int.reduceNeg, Int.reduceToNat, Int.reducePow, Nat.reducePow, Int.toNat_zero, not_false_eq_true, not_true_eq_false, reduceCtorEq, Nat.zero_add, Nat.add_zero, reduceIte, if_true, if_false, Bool.true_eq_false, Bool.false_eq_true, List.length_cons, List.length_nil, and_self, true_and, and_true, List.drop_zero, List.take_succ_cons, List.take_zero, List.drop_succ_cons, Nat.le_refl]
  | false =>
  have hbl : b.length ≤ 300 := by simp at h1; omega
  have hll : l.length ≤ 60 := by simp at h2; omega
  have h9 : TT 1000 12 9 [.one (rU b)] = _ := e9 1000 11 b hb (by omega) (by omega)
  have hsl := stp_len' b
  have hfs := flat_stp _ b (Nat.le_refl _)
  have h10 : TT 1000 12 10 [.one (rP (stp b))] = _ := e10 1000 8 (stp b) (by omega) (by omega) (by omega)
  rw [byA, List.drop_zero, stp_good _ b (Nat.le_refl _) hb, if_neg (by simp), if_neg (by omega), hfs] at h10
  have hq : IntKind.i64.wrap ((b.length : Int).tdiv 5) = ((stp b).length : Int) := by
    rw [Int.tdiv_eq_ediv_of_nonneg (by omega), w64 (by omega), hsl]; omega
  have hm : IntKind.i64.wrap ((b.length : Int) - (b.length : Int).tmod 5) = ((b.length - b.length % 5 : Nat) : Int) := by
    rw [Int.tmod_eq_emod_of_nonneg (by omega), w64 (by omega)]; omega
  have hqq : decide (((stp b).length : Int) = ((stp b).length : Int)) = true := by simp
  generalize hM : b.length - b.length % 5 = M at *
  have hMl : (b.take M).length = M := by rw [List.length_take]; omega
  have hM0 : (0 : Int) ≤ (M : Int) ∧ (M : Int) ≤ (b.length : Int) := by omega
  have h13 : TT 1000 12 13 [.one (rU (b.take M)), .one (rU (b.take M))] = _ := e13 1000 11 (b.take M) (by omega) (by omega)
  generalize hX : stp b = xs at *
  have tY : List.take (b.take M).length ((b.take M).map eU) = (b.take M).map eU := takeU _
  have h10l : TT 1000 12 10 [.one (rP l)] = _ := e10 1000 8 l (by omega) (by omega) (by omega)
  cases hbad : l.any badS with
  | true =>
    rw [byA, List.drop_zero, hbad, if_pos rfl] at h10l
    simp only [h1, h2, h9, h10, h13, hq, hm, hM0.1, hM0.2, hqq, cutT, takeP, tY, List.length_map, Int.toNat_natCast, Nat.le_refl, Nat.zero_add, h10l, hw0, j4, b4, q4, qq, oo3, go_mkp, go_stp, ments, V.ment, List.isEmpty_nil, oo, pp, lives, V.live, purS, S.pur, V.pur, V.pur1, purs, pur1s, mentS, S.ment, S.ment.smt, ments, V.ment, List.append_nil, Hp.ok64, List.all_nil, List.all_cons, S.purT, S.purT.sp, S.self, V.self, selfs, S.self.sself, Hp.self, S.ren, S.ren.sren, V.ren, Hp.ren, true_or, or_true, false_or, or_false, Bool.and_true, Bool.true_and, Bool.and_false, Bool.false_and, Bool.and_self, hand, handSs, handS, handVs, handV, handBs, upTo, one1, List.contains_nil, List.isEmpty_nil, List.take_length, List.getElem?_cons_zero, List.getElem?_cons_succ, fillV, fillR, setAt, List.set_cons_zero, List.set_cons_succ, List.replicate, evE, asRow, callS, callT, callU, names, dedup, blkMents, Blk.mentB, idxOf, V.mapS, S.mapS, S.mapS.smapS, Blk.mapS, encs, encB, isBox, backN, hpBack, killsV, killsS, killsS.ks, killsB, rowsOf, without, keysOk, noTup, boxesOk, fresh, Option.isNone_none, Blk.ren, aloOk, aloV, aloB, frzL, freezes, Go.Proofs.YtbkemldecbcfhaaDoorR.freeze, drop1, S.frz, S.frz.sf, V.frz, Blk.frz, slMent, pickL, List.map_append, S.kill, S.kill.sk, V.kill, Blk.kill, eqvs, ones, Bool.not_true, Bool.not_false, decide_true, decide_false, List.length_append, Int.le_refl, Int.toNat_natCast, Int.toNat_one, Int.cast_ofNat_Int, List.all_nil, List.contains_cons, Nat.reduceBEq, Bool.false_or, Bool.or_false, Bool.true_or, Bool.or_true, look_hit, look_end, look_miss, List.map_cons, List.map_nil, List.cons_append, List.nil_append, Option.getD_some, Option.getD_none, X.ev, ev, bin, ibin, Option.map_some, Option.map_none, Option.bind_some, S.cells, rd, sub, Go.Proofs.YtbkemldecbcfhaaDoorR.shape, asI, bnd, evs, Rs.ev, R.ev, params, okKey, Nat.reduceAdd, Nat.reduceMul, Nat.reduceDiv, Nat.reduceEqDiff, Nat.reduceLeDiff, Nat.reduceLT, Int.reduceEq, Int.reduceNe, Int.reduceLT, Int.reduceLE, Int.reduceAdd, Int.reduceSub, Int.reduceMul, Int.reduceNeg, Int.reduceToNat, Int.reducePow, Nat.reducePow, Int.toNat_zero, not_false_eq_true, not_true_eq_false, reduceCtorEq, Nat.zero_add, Nat.add_zero, reduceIte, if_true, if_false, Bool.true_eq_false, Bool.false_eq_true, List.length_cons, List.length_nil, and_self, true_and, and_true, List.drop_zero, List.take_succ_cons, List.take_zero, List.drop_succ_cons, Nat.le_refl]
  | false =>
    rw [byA, List.drop_zero, hbad, if_neg (by simp), if_neg (by omega)] at h10l
    have hfl := flat_len l
    have h9l : TT 1000 12 9 [.one (rU (flat l))] = _ := e9 1000 11 (flat l) (flat_Bs l hbad) (by omega) (by omega)
    rw [stp_flat] at h9l
    have h14 : TT 1000 12 14 [.one (rP l), .one (rP l)] = _ := e14 1000 11 l (by omega) (by omega)
    generalize hY : flat l = ys at *
    simp only [h1, h2, h9, h10, h13, hq, hm, hM0.1, hM0.2, hqq, cutT, takeP, tY, takeU, List.length_map, Int.toNat_natCast, Nat.le_refl, Nat.zero_add, h10l, h9l, h14, hw0, j4, b4, q4, qq, oo3, go_mkp, go_stp, ments, V.ment, List.isEmpty_nil, oo, pp, lives, V.live, purS, S.pur, V.pur, V.pur1, purs, pur1s, mentS, S.ment, S.ment.smt, ments, V.ment, List.append_nil, Hp.ok64, List.all_nil, List.all_cons, S.purT, S.purT.sp, S.self, V.self, selfs, S.self.sself, Hp.self, S.ren, S.ren.sren, V.ren, Hp.ren, true_or, or_true, false_or, or_false, Bool.and_true, Bool.true_and, Bool.and_false, Bool.false_and, Bool.and_self, hand, handSs, handS, handVs, handV, handBs, upTo, one1, List.contains_nil, List.isEmpty_nil, List.take_length, List.getElem?_cons_zero, List.getElem?_cons_succ, fillV, fillR, setAt, List.set_cons_zero, List.set_cons_succ, List.replicate, evE, asRow, callS, callT, callU, names, dedup, blkMents, Blk.mentB, idxOf, V.mapS, S.mapS, S.mapS.smapS, Blk.mapS, encs, encB, isBox, backN, hpBack, killsV, killsS, killsS.ks, killsB, rowsOf, without, keysOk, noTup, boxesOk, fresh, Option.isNone_none, Blk.ren, aloOk, aloV, aloB, frzL, freezes, Go.Proofs.YtbkemldecbcfhaaDoorR.freeze, drop1, S.frz, S.frz.sf, V.frz, Blk.frz, slMent, pickL, List.map_append, S.kill, S.kill.sk, V.kill, Blk.kill, eqvs, ones, Bool.not_true, Bool.not_false, decide_true, decide_false, List.length_append, Int.le_refl, Int.toNat_natCast, Int.toNat_one, Int.cast_ofNat_Int, List.all_nil, List.contains_cons, Nat.reduceBEq, Bool.false_or, Bool.or_false, Bool.true_or, Bool.or_true, look_hit, look_end, look_miss, List.map_cons, List.map_nil, List.cons_append, List.nil_append, Option.getD_some, Option.getD_none, X.ev, ev, bin, ibin, Option.map_some, Option.map_none, Option.bind_some, S.cells, rd, sub, Go.Proofs.YtbkemldecbcfhaaDoorR.shape, asI, bnd, evs, Rs.ev, R.ev, params, okKey, Nat.reduceAdd, Nat.reduceMul, Nat.reduceDiv, Nat.reduceEqDiff, Nat.reduceLeDiff, Nat.reduceLT, Int.reduceEq, Int.reduceNe, Int.reduceLT, Int.reduceLE, Int.reduceAdd, Int.reduceSub, Int.reduceMul, Int.reduceNeg, Int.reduceToNat, Int.reducePow, Nat.reducePow, Int.toNat_zero, not_false_eq_true, not_true_eq_false, reduceCtorEq, Nat.zero_add, Nat.add_zero, reduceIte, if_true, if_false, Bool.true_eq_false, Bool.false_eq_true, List.length_cons, List.length_nil, and_self, true_and, and_true, List.drop_zero, List.take_succ_cons, List.take_zero, List.drop_succ_cons, Nat.le_refl]
end Go.Proofs.YtbkemldecbcfhaaDoor.EC
