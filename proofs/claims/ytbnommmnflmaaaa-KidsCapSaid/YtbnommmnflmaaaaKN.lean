import Derived.Test.YtbnommmnflmaaaaKM
set_option linter.unusedSimpArgs false
set_option linter.unusedVariables false
namespace Go.Proofs.Ytbnommmnflmaaaa.KA
open Go Go.Proofs.YtbnommmnflmaaaaR Go.Proofs.Ytbnommmnflmaaaa.IK
set_option maxRecDepth 100000
set_option maxHeartbeats 4000000
theorem e5 (t self n m k : Int) : TT 1000 13 5 [iV t, iV self, iV n, iV m, iV k] = some (bV true, []) := by
  rw [t5, F_ev rfl]
  have hw0 := w0
  obtain ⟨a1, a2⟩ := kmod t 4 (by omega) (by omega)
  obtain ⟨b1, b2⟩ := kmod self 8 (by omega) (by omega)
  generalize hT : IntKind.i64.wrap ((IntKind.u64.wrap t).tmod 4) = T at a1 a2
  generalize hS : IntKind.i64.wrap ((IntKind.u64.wrap self).tmod 8) = A at b1 b2
  have ht : okT T = true := by simp [okT, inB]; omega
  have hs : okN A = true := by simp [okN, inB]; omega
  have h9 := e9 ht hs
  obtain ⟨f1, f2, f3⟩ := far_ok ht hs
  generalize farL T A = F at *
  cases hF2 : decide ((F.length : Int) < 3) with
  | true => simp only [hT, hS, h9, hF2, hw0, List.length_map, j5, b5, q5, qq, oo, pp, lives, V.live, purS, S.pur, V.pur, V.pur1, purs, pur1s, mentS, S.ment, S.ment.smt, ments, V.ment, List.append_nil, Hp.ok64, List.all_nil, List.all_cons, S.purT, S.purT.sp, S.self, V.self, selfs, S.self.sself, Hp.self, S.ren, S.ren.sren, V.ren, Hp.ren, true_or, or_true, false_or, or_false, Bool.and_true, Bool.true_and, Bool.and_false, Bool.false_and, Bool.and_self, hand, handSs, handS, handVs, handV, handBs, upTo, one1, List.contains_nil, List.isEmpty_nil, List.take_length, List.getElem?_cons_zero, List.getElem?_cons_succ, fillV, fillR, setAt, List.set_cons_zero, List.set_cons_succ, List.replicate, evE, asRow, callS, callT, callU, names, dedup, blkMents, Blk.mentB, idxOf, V.mapS, S.mapS, S.mapS.smapS, Blk.mapS, encs, encB, isBox, backN, hpBack, killsV, killsS, killsS.ks, killsB, rowsOf, without, keysOk, noTup, boxesOk, fresh, Option.isNone_none, Blk.ren, aloOk, aloV, aloB, frzL, freezes, Go.Proofs.YtbnommmnflmaaaaR.freeze, drop1, S.frz, S.frz.sf, V.frz, Blk.frz, slMent, pickL, List.map_append, S.kill, S.kill.sk, V.kill, Blk.kill, eqvs, ones, Bool.not_true, Bool.not_false, decide_true, decide_false, List.length_append, Int.le_refl, Int.toNat_natCast, Int.toNat_one, Int.cast_ofNat_Int, List.all_nil, List.contains_cons, Nat.reduceBEq, Bool.false_or, Bool.or_false, Bool.true_or, Bool.or_true, look_hit, look_end, look_miss, List.map_cons, List.map_nil, List.cons_append, List.nil_append, Option.getD_some, Option.getD_none, X.ev, ev, bin, ibin, Option.map_some, Option.map_none, Option.bind_some, S.cells, rd, sub, Go.Proofs.YtbnommmnflmaaaaR.shape, asI, bnd, evs, Rs.ev, R.ev, params, okKey, Nat.reduceAdd, Nat.reduceMul, Nat.reduceDiv, Nat.reduceEqDiff, Nat.reduceLeDiff, Nat.reduceLT, Int.reduceEq, Int.reduceNe, Int.reduceLT, Int.reduceLE, Int.reduceAdd, Int.reduceSub, Int.reduceMul, Int.reduceNeg, Int.reduceToNat, Int.reducePow, Nat.reducePow, Int.toNat_zero, not_false_eq_true, not_true_eq_false, reduceCtorEq, Nat.zero_add, Nat.add_zero, reduceIte, if_true, if_false, Bool.true_eq_false, Bool.false_eq_true, List.length_cons, List.length_nil, and_self, true_and, and_true, List.drop_zero, List.take_succ_cons, List.take_zero, List.drop_succ_cons, Nat.le_refl]
  | false =>
  have hF : 3 ≤ F.length := by simp at hF2; omega
  have hu := wu F.length (by omega)
  have hne : ¬ (F.length : Int) = 0 := by omega
  obtain ⟨c1, c2⟩ := kmod n F.length (by omega) (by omega)
  obtain ⟨d1, d2⟩ := kmod m F.length (by omega) (by omega)
  obtain ⟨e1, e2⟩ := kmod k F.length (by omega) (by omega)
  generalize hI : IntKind.i64.wrap ((IntKind.u64.wrap n).tmod (F.length : Int)) = i0 at c1 c2
  generalize hJ : IntKind.i64.wrap ((IntKind.u64.wrap m).tmod (F.length : Int)) = i1 at d1 d2
  generalize hK : IntKind.i64.wrap ((IntKind.u64.wrap k).tmod (F.length : Int)) = i2 at e1 e2
  obtain ⟨i0, rfl⟩ := Int.eq_ofNat_of_zero_le c1
  obtain ⟨i1, rfl⟩ := Int.eq_ofNat_of_zero_le d1
  obtain ⟨i2, rfl⟩ := Int.eq_ofNat_of_zero_le e1
  have l0 : i0 < F.length := by omega
  have l1 : i1 < F.length := by omega
  have l2 : i2 < F.length := by omega
  have hg0 : (F.map fun n : Int => [V.int .i64 n])[i0]? = some [.int .i64 F[i0]] := by simp [l0]
  have hg1 : (F.map fun n : Int => [V.int .i64 n])[i1]? = some [.int .i64 F[i1]] := by simp [l1]
  have hg2 : (F.map fun n : Int => [V.int .i64 n])[i2]? = some [.int .i64 F[i2]] := by simp [l2]
  have n0 := f1 F[i0] (List.getElem_mem _)
  have n1 := f1 F[i1] (List.getElem_mem _)
  have n2 := f1 F[i2] (List.getElem_mem _)
  generalize F[i0] = x0 at *
  generalize F[i1] = x1 at *
  generalize F[i2] = x2 at *
  have hb : 0 ≤ (i0 : Int) ∧ (i0 : Int) < (F.length : Int) ∧ 0 ≤ (i1 : Int) ∧ (i1 : Int) < (F.length : Int) ∧ 0 ≤ (i2 : Int) ∧ (i2 : Int) < (F.length : Int) := by omega
  simp only [hT, hS, h9, hF2, hu, hne, hI, hJ, hK, hg0, hg1, hg2, hb.1, hb.2.1, hb.2.2.1, hb.2.2.2.1, hb.2.2.2.2.1, hb.2.2.2.2.2, hw0, List.length_map, Int.toNat_natCast, j5, b5, q5, qq, oo, pp, lives, V.live, purS, S.pur, V.pur, V.pur1, purs, pur1s, mentS, S.ment, S.ment.smt, ments, V.ment, List.append_nil, Hp.ok64, List.all_nil, List.all_cons, S.purT, S.purT.sp, S.self, V.self, selfs, S.self.sself, Hp.self, S.ren, S.ren.sren, V.ren, Hp.ren, true_or, or_true, false_or, or_false, Bool.and_true, Bool.true_and, Bool.and_false, Bool.false_and, Bool.and_self, hand, handSs, handS, handVs, handV, handBs, upTo, one1, List.contains_nil, List.isEmpty_nil, List.take_length, List.getElem?_cons_zero, List.getElem?_cons_succ, fillV, fillR, setAt, List.set_cons_zero, List.set_cons_succ, List.replicate, evE, asRow, callS, callT, callU, names, dedup, blkMents, Blk.mentB, idxOf, V.mapS, S.mapS, S.mapS.smapS, Blk.mapS, encs, encB, isBox, backN, hpBack, killsV, killsS, killsS.ks, killsB, rowsOf, without, keysOk, noTup, boxesOk, fresh, Option.isNone_none, Blk.ren, aloOk, aloV, aloB, frzL, freezes, Go.Proofs.YtbnommmnflmaaaaR.freeze, drop1, S.frz, S.frz.sf, V.frz, Blk.frz, slMent, pickL, List.map_append, S.kill, S.kill.sk, V.kill, Blk.kill, eqvs, ones, Bool.not_true, Bool.not_false, decide_true, decide_false, List.length_append, Int.le_refl, Int.toNat_natCast, Int.toNat_one, Int.cast_ofNat_Int, List.all_nil, List.contains_cons, Nat.reduceBEq, Bool.false_or, Bool.or_false, Bool.true_or, Bool.or_true, look_hit, look_end, look_miss, List.map_cons, List.map_nil, List.cons_append, List.nil_append, Option.getD_some, Option.getD_none, X.ev, ev, bin, ibin, Option.map_some, Option.map_none, Option.bind_some, S.cells, rd, sub, Go.Proofs.YtbnommmnflmaaaaR.shape, asI, bnd, evs, Rs.ev, R.ev, params, okKey, Nat.reduceAdd, Nat.reduceMul, Nat.reduceDiv, Nat.reduceEqDiff, Nat.reduceLeDiff, Nat.reduceLT, Int.reduceEq, Int.reduceNe, Int.reduceLT, Int.reduceLE, Int.reduceAdd, Int.reduceSub, Int.reduceMul, Int.reduceNeg, Int.reduceToNat, Int.reducePow, Nat.reducePow, Int.toNat_zero, not_false_eq_true, not_true_eq_false, reduceCtorEq, Nat.zero_add, Nat.add_zero, reduceIte, if_true, if_false, Bool.true_eq_false, Bool.false_eq_true, List.length_cons, List.length_nil, and_self, true_and, and_true, List.drop_zero, List.take_succ_cons, List.take_zero, List.drop_succ_cons, Nat.le_refl]
  clear hT hS hI hJ hK hu hne hF2 h9 hg0 hg1 hg2 hb c1 c2 d1 d2 e1 e2 l0 l1 l2 hF f1 f2 f3 a1 a2 b1 b2
  obtain ⟨xs, hxs⟩ : ∃ xs : List Int, xs = [x0, x1, x2] := ⟨_, rfl⟩
  have hx3 : xs.length = 3 := by rw [hxs]; rfl
  have hall : ∀ z ∈ xs, nr T A z = true := by rw [hxs]; intro z hz; simp at hz; rcases hz with rfl | rfl | rfl <;> assumption
  have gd : ∀ i, Good T A (adL T (xs.take i)) := fun i => adL_good (fun z hz => hall z (List.mem_of_mem_take hz)) ⟨rfl, fun y hy => by simp at hy⟩
  have gr : ∀ i, Good T A (adL T (xs.reverse.take i)) := fun i => adL_good (fun z hz => hall z (by simpa using List.mem_of_mem_take hz)) ⟨rfl, fun y hy => by simp at hy⟩
  have ll : ∀ i, (adL T (xs.take i)).length ≤ i := fun i => by have := adL_len (t := T) (ns := xs.take i) (l := []); simp only [List.length_nil, List.length_take] at this; unfold adL; omega
  have lr : ∀ i, (adL T (xs.reverse.take i)).length ≤ i := fun i => by have := adL_len (t := T) (ns := xs.reverse.take i) (l := []); simp only [List.length_nil, List.length_take] at this; unfold adL; omega
  refine (loopK (K := fun o => fin _ (aft _ _ _ o)) (fun i => ⟨[(0, iV T), (1, iV A), (12, .one (.sl 4416 0 3)), (13, .one (rK (adL T (xs.take i)))), (14, .one (rK (adL T (xs.reverse.take i)))), (15, iV i)], [(4416, .rows 3 1 (xs.map fun n : Int => [V.int .i64 n]))]⟩) (fun _ => some (bV true, [])) 3 ?hr 3 0 1000 _ (by omega) (by omega) ?hk)
  case hk => rw [hxs]; simp only [gcK, lowB, Nat.reduceLeDiff, Nat.reduceBEq, List.contains_nil, List.contains_cons, Bool.or_false, Bool.false_or, Bool.false_eq_true, if_false, Bool.true_and, Bool.and_true, pickL, look_hit, look_miss, look_end, slMent, hpMent, S.ment, S.ment.smt, ments, V.ment, List.append_nil, List.nil_append, List.cons_append, List.all_nil, List.all_cons, Option.isSome_some, Bool.and_self, if_true, reduceIte, Nat.reduceEqDiff, not_false_eq_true, reduceCtorEq, Nat.reduceMul, Nat.reduceAdd]; rfl
  case hr =>
    intro i q hi ih
    (try dsimp only)
    by_cases hlt : i < 3
    · have h1 : decide ((i : Int) < 3) = true := by simp; omega
      have hbi : 0 ≤ (i : Int) ∧ (i : Int) < 3 ∧ 0 ≤ ((2 - i : Nat) : Int) ∧ ((2 - i : Nat) : Int) < 3 := by omega
      have hwi : IntKind.i64.wrap (2 - (i : Int)) = ((2 - i : Nat) : Int) := by rw [IntWalk.i64_in _ (by omega)]; omega
      have hga : (xs.map fun n : Int => [V.int .i64 n])[i]? = some [.int .i64 (xs[i]'(by omega))] := by rw [List.getElem?_map, List.getElem?_eq_getElem (by omega)]; rfl
      have hgb : (xs.map fun n : Int => [V.int .i64 n])[2 - i]? = some [.int .i64 (xs[2 - i]'(by omega))] := by rw [List.getElem?_map, List.getElem?_eq_getElem (by omega)]; rfl
      have hrev : xs.reverse[i]'(by simp; omega) = xs[2 - i]'(by omega) := by simp [List.getElem_reverse, hx3]
      have sa := adL_s (t := T) (ns := xs) (i := i) (by omega)
      have sb := adL_s (t := T) (ns := xs.reverse) (i := i) (by simp; omega)
      rw [hrev] at sb
      have na := hall (xs[i]'(by omega)) (List.getElem_mem _)
      have nb := hall (xs[2 - i]'(by omega)) (List.getElem_mem _)
      have ha := fun d => e10 1000 d T A 4 (adL T (xs.take i)) (xs[i]'(by omega)) 2 (by have := ll i; omega) (by have := ll i; omega)
      have hbq := fun d => e10 1000 d T A 4 (adL T (xs.reverse.take i)) (xs[2 - i]'(by omega)) 2 (by have := lr i; omega) (by have := lr i; omega)
      rw [ask_ad ht hs na (gd i) (by have := ll i; omega), ← sa] at ha
      rw [ask_ad ht hs nb (gr i) (by have := lr i; omega), ← sb] at hbq
      have hz0 : IntKind.i64.wrap 0 = 0 := by decide
      have hdd : ∀ a : Int, decide (a = a) = true := fun a => by simp
      simp only [h1, hbi.1, hbi.2.1, hbi.2.2.1, hbi.2.2.2, hwi, hga, hgb, ha, hbq, hz0, hdd, wi i (by omega), Nat.zero_add, List.length_map, Int.toNat_natCast, j5, b5, q5, qq, oo, pp, lives, V.live, purS, S.pur, V.pur, V.pur1, purs, pur1s, mentS, S.ment, S.ment.smt, ments, V.ment, List.append_nil, Hp.ok64, List.all_nil, List.all_cons, S.purT, S.purT.sp, S.self, V.self, selfs, S.self.sself, Hp.self, S.ren, S.ren.sren, V.ren, Hp.ren, true_or, or_true, false_or, or_false, Bool.and_true, Bool.true_and, Bool.and_false, Bool.false_and, Bool.and_self, hand, handSs, handS, handVs, handV, handBs, upTo, one1, List.contains_nil, List.isEmpty_nil, List.take_length, List.getElem?_cons_zero, List.getElem?_cons_succ, fillV, fillR, setAt, List.set_cons_zero, List.set_cons_succ, List.replicate, evE, asRow, callS, callT, callU, names, dedup, blkMents, Blk.mentB, idxOf, V.mapS, S.mapS, S.mapS.smapS, Blk.mapS, encs, encB, isBox, backN, hpBack, killsV, killsS, killsS.ks, killsB, rowsOf, without, keysOk, noTup, boxesOk, fresh, Option.isNone_none, Blk.ren, aloOk, aloV, aloB, frzL, freezes, Go.Proofs.YtbnommmnflmaaaaR.freeze, drop1, S.frz, S.frz.sf, V.frz, Blk.frz, slMent, pickL, List.map_append, S.kill, S.kill.sk, V.kill, Blk.kill, eqvs, ones, Bool.not_true, Bool.not_false, decide_true, decide_false, List.length_append, Int.le_refl, Int.toNat_natCast, Int.toNat_one, Int.cast_ofNat_Int, List.all_nil, List.contains_cons, Nat.reduceBEq, Bool.false_or, Bool.or_false, Bool.true_or, Bool.or_true, look_hit, look_end, look_miss, List.map_cons, List.map_nil, List.cons_append, List.nil_append, Option.getD_some, Option.getD_none, X.ev, ev, bin, ibin, Option.map_some, Option.map_none, Option.bind_some, S.cells, rd, sub, Go.Proofs.YtbnommmnflmaaaaR.shape, asI, bnd, evs, Rs.ev, R.ev, params, okKey, Nat.reduceAdd, Nat.reduceMul, Nat.reduceDiv, Nat.reduceEqDiff, Nat.reduceLeDiff, Nat.reduceLT, Int.reduceEq, Int.reduceNe, Int.reduceLT, Int.reduceLE, Int.reduceAdd, Int.reduceSub, Int.reduceMul, Int.reduceNeg, Int.reduceToNat, Int.reducePow, Nat.reducePow, Int.toNat_zero, not_false_eq_true, not_true_eq_false, reduceCtorEq, Nat.zero_add, Nat.add_zero, reduceIte, if_true, if_false, Bool.true_eq_false, Bool.false_eq_true, List.length_cons, List.length_nil, and_self, true_and, and_true, List.drop_zero, List.take_succ_cons, List.take_zero, List.drop_succ_cons, Nat.le_refl]
      exact ih hlt _ (by simp only [gcK, lowB, Nat.reduceLeDiff, Nat.reduceBEq, List.contains_nil, List.contains_cons, Bool.or_false, Bool.false_or, Bool.false_eq_true, if_false, Bool.true_and, Bool.and_true, pickL, look_hit, look_miss, look_end, slMent, hpMent, S.ment, S.ment.smt, ments, V.ment, List.append_nil, List.nil_append, List.cons_append, List.all_nil, List.all_cons, Option.isSome_some, Bool.and_self, if_true, reduceIte, Nat.reduceEqDiff, not_false_eq_true, reduceCtorEq, Nat.reduceMul, Nat.reduceAdd])
    · obtain rfl : i = 3 := by omega
      have h1 : decide (((3 : Nat) : Int) < 3) = false := rfl
      have hrv : adL T (xs.reverse.take 3) = adL T (xs.take 3) := by
        rw [List.take_of_length_le (by simp [hx3]), List.take_of_length_le (by omega), adL_rev hall]
      have hll := fun d => e14r d (adL T (xs.take 3)) (by have := ll 3; omega)
      have h12 := fun d z => e12 1000 d (adL T (xs.take 3)) z (by have := ll 3; omega) (by have := ll 3; omega)
      have hh : ∀ z ∈ xs, hasN (adL T (xs.take 3)) z = true := by
        intro z hz
        rw [List.take_of_length_le (by omega)]
        unfold adL
        rw [adL_has, Bool.or_eq_true]
        exact .inl (List.any_eq_true.2 ⟨z, hz, by simp⟩)
      have z0 := hh x0 (by rw [hxs]; simp)
      have z1 := hh x1 (by rw [hxs]; simp)
      have z2 := hh x2 (by rw [hxs]; simp)
      have hm : (xs.map fun n : Int => [V.int .i64 n]) = [[.int .i64 x0], [.int .i64 x1], [.int .i64 x2]] := by rw [hxs]; rfl
      rw [hrv, hm]
      generalize adL T (xs.take 3) = L at *
      simp only [h1, hll, h12, z0, z1, z2, hw0, List.length_map, Int.toNat_natCast, List.getElem?_cons_zero, List.getElem?_cons_succ, Nat.zero_add, j5, b5, q5, qq, oo, pp, lives, V.live, purS, S.pur, V.pur, V.pur1, purs, pur1s, mentS, S.ment, S.ment.smt, ments, V.ment, List.append_nil, Hp.ok64, List.all_nil, List.all_cons, S.purT, S.purT.sp, S.self, V.self, selfs, S.self.sself, Hp.self, S.ren, S.ren.sren, V.ren, Hp.ren, true_or, or_true, false_or, or_false, Bool.and_true, Bool.true_and, Bool.and_false, Bool.false_and, Bool.and_self, hand, handSs, handS, handVs, handV, handBs, upTo, one1, List.contains_nil, List.isEmpty_nil, List.take_length, List.getElem?_cons_zero, List.getElem?_cons_succ, fillV, fillR, setAt, List.set_cons_zero, List.set_cons_succ, List.replicate, evE, asRow, callS, callT, callU, names, dedup, blkMents, Blk.mentB, idxOf, V.mapS, S.mapS, S.mapS.smapS, Blk.mapS, encs, encB, isBox, backN, hpBack, killsV, killsS, killsS.ks, killsB, rowsOf, without, keysOk, noTup, boxesOk, fresh, Option.isNone_none, Blk.ren, aloOk, aloV, aloB, frzL, freezes, Go.Proofs.YtbnommmnflmaaaaR.freeze, drop1, S.frz, S.frz.sf, V.frz, Blk.frz, slMent, pickL, List.map_append, S.kill, S.kill.sk, V.kill, Blk.kill, eqvs, ones, Bool.not_true, Bool.not_false, decide_true, decide_false, List.length_append, Int.le_refl, Int.toNat_natCast, Int.toNat_one, Int.cast_ofNat_Int, List.all_nil, List.contains_cons, Nat.reduceBEq, Bool.false_or, Bool.or_false, Bool.true_or, Bool.or_true, look_hit, look_end, look_miss, List.map_cons, List.map_nil, List.cons_append, List.nil_append, Option.getD_some, Option.getD_none, X.ev, ev, bin, ibin, Option.map_some, Option.map_none, Option.bind_some, S.cells, rd, sub, Go.Proofs.YtbnommmnflmaaaaR.shape, asI, bnd, evs, Rs.ev, R.ev, params, okKey, Nat.reduceAdd, Nat.reduceMul, Nat.reduceDiv, Nat.reduceEqDiff, Nat.reduceLeDiff, Nat.reduceLT, Int.reduceEq, Int.reduceNe, Int.reduceLT, Int.reduceLE, Int.reduceAdd, Int.reduceSub, Int.reduceMul, Int.reduceNeg, Int.reduceToNat, Int.reducePow, Nat.reducePow, Int.toNat_zero, not_false_eq_true, not_true_eq_false, reduceCtorEq, Nat.zero_add, Nat.add_zero, reduceIte, if_true, if_false, Bool.true_eq_false, Bool.false_eq_true, List.length_cons, List.length_nil, and_self, true_and, and_true, List.drop_zero, List.take_succ_cons, List.take_zero, List.drop_succ_cons, Nat.le_refl]
end Go.Proofs.Ytbnommmnflmaaaa.KA
