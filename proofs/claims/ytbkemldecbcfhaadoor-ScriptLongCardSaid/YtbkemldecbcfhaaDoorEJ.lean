import Derived.Test.YtbkemldecbcfhaaDoorEI
set_option linter.unusedSimpArgs false
set_option linter.unusedVariables false
namespace Go.Proofs.YtbkemldecbcfhaaDoor.EC
open Go Go.Proofs.YtbkemldecbcfhaaDoorR Go.Proofs.YtbkemldecbcfhaaDoor.IS Go.Proofs.YtbkemldecbcfhaaDoor.EA
set_option maxRecDepth 100000
set_option maxHeartbeats 4000000
/-- Bytes. -/
def Bs (b : List Int) : Prop := ∀ y ∈ b, 0 ≤ y ∧ y ≤ 255
theorem at5 {b : List Int} {p : Nat} {a0 a1 a2 a3 a4 : Int} {r : List Int} (h : b.drop p = a0 :: a1 :: a2 :: a3 :: a4 :: r) :
    (b.map eU)[p]? = some (eU a0) ∧ (b.map eU)[p + 1]? = some (eU a1) ∧ (b.map eU)[p + 2]? = some (eU a2) ∧ (b.map eU)[p + 3]? = some (eU a3) ∧ (b.map eU)[p + 4]? = some (eU a4) := by
  have g : ∀ j : Nat, b[p + j]? = (a0 :: a1 :: a2 :: a3 :: a4 :: r)[j]? := fun j => by rw [← h, List.getElem?_drop]
  have g0 := g 0
  rw [Nat.add_zero] at g0
  refine ⟨?_, ?_, ?_, ?_, ?_⟩ <;> rw [List.getElem?_map]
  · rw [g0]; rfl
  · rw [g 1]; rfl
  · rw [g 2]; rfl
  · rw [g 3]; rfl
  · rw [g 4]; rfl
theorem in5 {b : List Int} {p : Nat} {a0 a1 a2 a3 a4 : Int} {r : List Int} (h : b.drop p = a0 :: a1 :: a2 :: a3 :: a4 :: r) (hb : Bs b) :
    IntKind.i64.wrap a0 = a0 ∧ IntKind.i64.wrap a1 = a1 ∧ IntKind.i64.wrap a2 = a2 ∧ IntKind.i64.wrap a3 = a3 ∧ IntKind.i64.wrap a4 = a4 := by
  have g : ∀ y ∈ a0 :: a1 :: a2 :: a3 :: a4 :: r, IntKind.i64.wrap y = y := fun y hy => by
    rw [← h] at hy
    have := hb y (List.mem_of_mem_drop hy)
    exact w64 (by omega)
  exact ⟨g _ (by simp), g _ (by simp), g _ (by simp), g _ (by simp), g _ (by simp)⟩
theorem all5 (l : List Sp) : (l.map eP).all (fun x => x.length == 5) = true := by simp
theorem e15 (N d : Nat) (b : List Int) (hb : Bs b) (hN : b.length < N) (hl : b.length < 1000000) : TT N (d + 1) 15 [.one (rU b)] = some (.one (.sl 0 0 (stp b).length), [(0, .rows 27 5 ((stp b).map eP))]) := by
  rw [t15, F_ev rfl]
  simp only [List.length_map, j15, b15, q15, qq, oo3, go_mkp, go_stp, ments, V.ment, List.isEmpty_nil, oo, pp, lives, V.live, purS, S.pur, V.pur, V.pur1, purs, pur1s, mentS, S.ment, S.ment.smt, ments, V.ment, List.append_nil, Hp.ok64, List.all_nil, List.all_cons, S.purT, S.purT.sp, S.self, V.self, selfs, S.self.sself, Hp.self, S.ren, S.ren.sren, V.ren, Hp.ren, true_or, or_true, false_or, or_false, Bool.and_true, Bool.true_and, Bool.and_false, Bool.false_and, Bool.and_self, hand, handSs, handS, handVs, handV, handBs, upTo, one1, List.contains_nil, List.isEmpty_nil, List.take_length, List.getElem?_cons_zero, List.getElem?_cons_succ, fillV, fillR, setAt, List.set_cons_zero, List.set_cons_succ, List.replicate, evE, asRow, callS, callT, callU, names, dedup, blkMents, Blk.mentB, idxOf, V.mapS, S.mapS, S.mapS.smapS, Blk.mapS, encs, encB, isBox, backN, hpBack, killsV, killsS, killsS.ks, killsB, rowsOf, without, keysOk, noTup, boxesOk, fresh, Option.isNone_none, Blk.ren, aloOk, aloV, aloB, frzL, freezes, Go.Proofs.YtbkemldecbcfhaaDoorR.freeze, drop1, S.frz, S.frz.sf, V.frz, Blk.frz, slMent, pickL, List.map_append, S.kill, S.kill.sk, V.kill, Blk.kill, eqvs, ones, Bool.not_true, Bool.not_false, decide_true, decide_false, List.length_append, Int.le_refl, Int.toNat_natCast, Int.toNat_one, Int.cast_ofNat_Int, List.all_nil, List.contains_cons, Nat.reduceBEq, Bool.false_or, Bool.or_false, Bool.true_or, Bool.or_true, look_hit, look_end, look_miss, List.map_cons, List.map_nil, List.cons_append, List.nil_append, Option.getD_some, Option.getD_none, X.ev, ev, bin, ibin, Option.map_some, Option.map_none, Option.bind_some, S.cells, rd, sub, Go.Proofs.YtbkemldecbcfhaaDoorR.shape, asI, bnd, evs, Rs.ev, R.ev, params, okKey, Nat.reduceAdd, Nat.reduceMul, Nat.reduceDiv, Nat.reduceEqDiff, Nat.reduceLeDiff, Nat.reduceLT, Int.reduceEq, Int.reduceNe, Int.reduceLT, Int.reduceLE, Int.reduceAdd, Int.reduceSub, Int.reduceMul, Int.reduceNeg, Int.reduceToNat, Int.reducePow, Nat.reducePow, Int.toNat_zero, not_false_eq_true, not_true_eq_false, reduceCtorEq, Nat.zero_add, Nat.add_zero, reduceIte, if_true, if_false, Bool.true_eq_false, Bool.false_eq_true, List.length_cons, List.length_nil, and_self, true_and, and_true, List.drop_zero, List.take_succ_cons, List.take_zero, List.drop_succ_cons, Nat.le_refl]
  refine (loopK (K := fun o => fin _ (aft _ _ _ o)) (fun i => ⟨[(0, .one (rU b)), (3, .one (.sl 192 0 (stp (b.take (5 * i))).length)), (4, iV ((5 * i : Nat) : Int))], [(192, .rows 27 5 ((stp (b.take (5 * i))).map eP))]⟩) (fun i => some (.one (.sl 0 0 (stp b).length), [(0, .rows 27 5 ((stp b).map eP))])) (b.length / 5) ?hr (b.length / 5) 0 N _ (by omega) (by omega) ?hk).trans ?_
  case hk => simp only [gcK, lowB, Nat.reduceLeDiff, Nat.reduceBEq, List.contains_nil, List.contains_cons, Bool.or_false, Bool.false_or, Bool.false_eq_true, if_false, Bool.true_and, Bool.and_true, pickL, look_hit, look_miss, look_end, slMent, hpMent, S.ment, S.ment.smt, ments, V.ment, List.append_nil, List.nil_append, List.cons_append, List.all_nil, List.all_cons, Option.isSome_some, Bool.and_self, if_true, reduceIte, Nat.reduceEqDiff, not_false_eq_true, reduceCtorEq, Nat.reduceMul, Nat.reduceAdd]; rfl
  case hr =>
    intro i n hi ih
    (try dsimp only)
    have hw5 : IntKind.i64.wrap (((5 * i : Nat) : Int) + 5) = ((5 * (i + 1) : Nat) : Int) := by rw [IntWalk.i64_in _ (by omega)]; omega
    by_cases hlt : i < b.length / 5
    · obtain ⟨a0, a1, a2, a3, a4, r, hd⟩ := five (l := b.drop (5 * i)) (by rw [List.length_drop]; omega)
      obtain ⟨g0, g1, g2, g3, g4⟩ := at5 hd
      obtain ⟨v0, v1, v2, v3, v4⟩ := in5 hd hb
      have hs := stp_round hd (by omega)
      have hT := stp_tlen b i (by omega)
      generalize hG : stp (b.take (5 * i)) = G at *
      have h1 : decide (((5 * (i + 1) : Nat) : Int) ≤ (b.length : Int)) = true := by simp; omega
      have w1 : IntKind.i64.wrap (((5 * i : Nat) : Int) + 1) = ((5 * i + 1 : Nat) : Int) := by rw [IntWalk.i64_in _ (by omega)]; omega
      have w2 : IntKind.i64.wrap (((5 * i : Nat) : Int) + 2) = ((5 * i + 2 : Nat) : Int) := by rw [IntWalk.i64_in _ (by omega)]; omega
      have w3 : IntKind.i64.wrap (((5 * i : Nat) : Int) + 3) = ((5 * i + 3 : Nat) : Int) := by rw [IntWalk.i64_in _ (by omega)]; omega
      have w4 : IntKind.i64.wrap (((5 * i : Nat) : Int) + 4) = ((5 * i + 4 : Nat) : Int) := by rw [IntWalk.i64_in _ (by omega)]; omega
      have p0 : 0 ≤ ((5 * i : Nat) : Int) ∧ ((5 * i : Nat) : Int) < (b.length : Int) := by omega
      have p1 : 0 ≤ ((5 * i + 1 : Nat) : Int) ∧ ((5 * i + 1 : Nat) : Int) < (b.length : Int) := by omega
      have p2 : 0 ≤ ((5 * i + 2 : Nat) : Int) ∧ ((5 * i + 2 : Nat) : Int) < (b.length : Int) := by omega
      have p3 : 0 ≤ ((5 * i + 3 : Nat) : Int) ∧ ((5 * i + 3 : Nat) : Int) < (b.length : Int) := by omega
      have p4 : 0 ≤ ((5 * i + 4 : Nat) : Int) ∧ ((5 * i + 4 : Nat) : Int) < (b.length : Int) := by omega
      have hb2 : (G.length + 1) * 40 ≤ 140737488355328 := by omega
      simp only [h1, hw5, w1, w2, w3, w4, p0.1, p0.2, p1.1, p1.2, p2.1, p2.2, p3.1, p3.2, p4.1, p4.2, g0, g1, g2, g3, g4, v0, v1, v2, v3, v4, hb2, takeP, all5, Nat.zero_add, List.length_map, Int.toNat_natCast, j15, b15, q15, qq, oo3, go_mkp, go_stp, ments, V.ment, List.isEmpty_nil, oo, pp, lives, V.live, purS, S.pur, V.pur, V.pur1, purs, pur1s, mentS, S.ment, S.ment.smt, ments, V.ment, List.append_nil, Hp.ok64, List.all_nil, List.all_cons, S.purT, S.purT.sp, S.self, V.self, selfs, S.self.sself, Hp.self, S.ren, S.ren.sren, V.ren, Hp.ren, true_or, or_true, false_or, or_false, Bool.and_true, Bool.true_and, Bool.and_false, Bool.false_and, Bool.and_self, hand, handSs, handS, handVs, handV, handBs, upTo, one1, List.contains_nil, List.isEmpty_nil, List.take_length, List.getElem?_cons_zero, List.getElem?_cons_succ, fillV, fillR, setAt, List.set_cons_zero, List.set_cons_succ, List.replicate, evE, asRow, callS, callT, callU, names, dedup, blkMents, Blk.mentB, idxOf, V.mapS, S.mapS, S.mapS.smapS, Blk.mapS, encs, encB, isBox, backN, hpBack, killsV, killsS, killsS.ks, killsB, rowsOf, without, keysOk, noTup, boxesOk, fresh, Option.isNone_none, Blk.ren, aloOk, aloV, aloB, frzL, freezes, Go.Proofs.YtbkemldecbcfhaaDoorR.freeze, drop1, S.frz, S.frz.sf, V.frz, Blk.frz, slMent, pickL, List.map_append, S.kill, S.kill.sk, V.kill, Blk.kill, eqvs, ones, Bool.not_true, Bool.not_false, decide_true, decide_false, List.length_append, Int.le_refl, Int.toNat_natCast, Int.toNat_one, Int.cast_ofNat_Int, List.all_nil, List.contains_cons, Nat.reduceBEq, Bool.false_or, Bool.or_false, Bool.true_or, Bool.or_true, look_hit, look_end, look_miss, List.map_cons, List.map_nil, List.cons_append, List.nil_append, Option.getD_some, Option.getD_none, X.ev, ev, bin, ibin, Option.map_some, Option.map_none, Option.bind_some, S.cells, rd, sub, Go.Proofs.YtbkemldecbcfhaaDoorR.shape, asI, bnd, evs, Rs.ev, R.ev, params, okKey, Nat.reduceAdd, Nat.reduceMul, Nat.reduceDiv, Nat.reduceEqDiff, Nat.reduceLeDiff, Nat.reduceLT, Int.reduceEq, Int.reduceNe, Int.reduceLT, Int.reduceLE, Int.reduceAdd, Int.reduceSub, Int.reduceMul, Int.reduceNeg, Int.reduceToNat, Int.reducePow, Nat.reducePow, Int.toNat_zero, not_false_eq_true, not_true_eq_false, reduceCtorEq, Nat.zero_add, Nat.add_zero, reduceIte, if_true, if_false, Bool.true_eq_false, Bool.false_eq_true, List.length_cons, List.length_nil, and_self, true_and, and_true, List.drop_zero, List.take_succ_cons, List.take_zero, List.drop_succ_cons, Nat.le_refl]
      exact ih hlt _ (by simp only [hs, List.map_append, List.length_append, List.map_cons, List.map_nil, List.length_cons, List.length_nil, Nat.zero_add, gcK, lowB, Nat.reduceLeDiff, Nat.reduceBEq, List.contains_nil, List.contains_cons, Bool.or_false, Bool.false_or, Bool.false_eq_true, if_false, Bool.true_and, Bool.and_true, pickL, look_hit, look_miss, look_end, slMent, hpMent, S.ment, S.ment.smt, ments, V.ment, List.append_nil, List.nil_append, List.cons_append, List.all_nil, List.all_cons, Option.isSome_some, Bool.and_self, if_true, reduceIte, Nat.reduceEqDiff, not_false_eq_true, reduceCtorEq, Nat.reduceMul, Nat.reduceAdd])
    · obtain rfl : i = b.length / 5 := by omega
      have h1 : decide (((5 * (b.length / 5 + 1) : Nat) : Int) ≤ (b.length : Int)) = false := by simp; omega
      rw [stp_all]
      simp only [h1, hw5, takeP, Nat.zero_add, List.length_map, Nat.le_refl, j15, b15, q15, qq, oo3, go_mkp, go_stp, ments, V.ment, List.isEmpty_nil, oo, pp, lives, V.live, purS, S.pur, V.pur, V.pur1, purs, pur1s, mentS, S.ment, S.ment.smt, ments, V.ment, List.append_nil, Hp.ok64, List.all_nil, List.all_cons, S.purT, S.purT.sp, S.self, V.self, selfs, S.self.sself, Hp.self, S.ren, S.ren.sren, V.ren, Hp.ren, true_or, or_true, false_or, or_false, Bool.and_true, Bool.true_and, Bool.and_false, Bool.false_and, Bool.and_self, hand, handSs, handS, handVs, handV, handBs, upTo, one1, List.contains_nil, List.isEmpty_nil, List.take_length, List.getElem?_cons_zero, List.getElem?_cons_succ, fillV, fillR, setAt, List.set_cons_zero, List.set_cons_succ, List.replicate, evE, asRow, callS, callT, callU, names, dedup, blkMents, Blk.mentB, idxOf, V.mapS, S.mapS, S.mapS.smapS, Blk.mapS, encs, encB, isBox, backN, hpBack, killsV, killsS, killsS.ks, killsB, rowsOf, without, keysOk, noTup, boxesOk, fresh, Option.isNone_none, Blk.ren, aloOk, aloV, aloB, frzL, freezes, Go.Proofs.YtbkemldecbcfhaaDoorR.freeze, drop1, S.frz, S.frz.sf, V.frz, Blk.frz, slMent, pickL, List.map_append, S.kill, S.kill.sk, V.kill, Blk.kill, eqvs, ones, Bool.not_true, Bool.not_false, decide_true, decide_false, List.length_append, Int.le_refl, Int.toNat_natCast, Int.toNat_one, Int.cast_ofNat_Int, List.all_nil, List.contains_cons, Nat.reduceBEq, Bool.false_or, Bool.or_false, Bool.true_or, Bool.or_true, look_hit, look_end, look_miss, List.map_cons, List.map_nil, List.cons_append, List.nil_append, Option.getD_some, Option.getD_none, X.ev, ev, bin, ibin, Option.map_some, Option.map_none, Option.bind_some, S.cells, rd, sub, Go.Proofs.YtbkemldecbcfhaaDoorR.shape, asI, bnd, evs, Rs.ev, R.ev, params, okKey, Nat.reduceAdd, Nat.reduceMul, Nat.reduceDiv, Nat.reduceEqDiff, Nat.reduceLeDiff, Nat.reduceLT, Int.reduceEq, Int.reduceNe, Int.reduceLT, Int.reduceLE, Int.reduceAdd, Int.reduceSub, Int.reduceMul, Int.reduceNeg, Int.reduceToNat, Int.reducePow, Nat.reducePow, Int.toNat_zero, not_false_eq_true, not_true_eq_false, reduceCtorEq, Nat.zero_add, Nat.add_zero, reduceIte, if_true, if_false, Bool.true_eq_false, Bool.false_eq_true, List.length_cons, List.length_nil, and_self, true_and, and_true, List.drop_zero, List.take_succ_cons, List.take_zero, List.drop_succ_cons, Nat.le_refl]
  rfl
end Go.Proofs.YtbkemldecbcfhaaDoor.EC
