import Derived.Test.YtjafaefiigingaaAI
set_option linter.unusedSimpArgs false
set_option linter.unusedVariables false
namespace Go.Proofs.Ytjafaefiigingaa.AA
open Go Go.Proofs.YtjafaefiigingaaR Go.Proofs.Ytjafaefiigingaa.IA
set_option maxRecDepth 100000
set_option maxHeartbeats 4000000
theorem ins_comm {x y : It} (hne : x.s ≠ y.s) : ∀ {l a b : List It}, ins x l = some a → ins y l = some b → ∃ m, ins y a = some m ∧ ins x b = some m
  | [], a, b, h1, h2 => by
    simp only [ins, Option.some.injEq] at h1 h2
    subst h1; subst h2
    by_cases h : x.s < y.s
    · refine ⟨[x, y], ?_, ?_⟩
      · simp only [ins]; rw [if_neg (by omega)]; rfl
      · simp only [ins]; rw [if_pos (by omega), if_neg (by omega)]
    · refine ⟨[y, x], ?_, ?_⟩
      · simp only [ins]; rw [if_pos (by omega), if_neg (by omega)]
      · simp only [ins]; rw [if_neg (by omega)]; rfl
  | z :: r, a, b, h1, h2 => by
    unfold ins at h1 h2
    by_cases hx : x.s ≤ z.s
    · rw [if_pos hx] at h1
      split at h1
      · cases h1
      rename_i hxe
      cases h1
      by_cases hy : y.s ≤ z.s
      · rw [if_pos hy] at h2
        split at h2
        · cases h2
        rename_i hye
        cases h2
        by_cases h : x.s < y.s
        · refine ⟨x :: y :: z :: r, ?_, ?_⟩
          · rw [ins, if_neg (by omega), ins, if_pos hy, if_neg hye]; rfl
          · rw [ins, if_pos (by omega), if_neg (by omega)]
        · refine ⟨y :: x :: z :: r, ?_, ?_⟩
          · rw [ins, if_pos (by omega), if_neg (by omega)]
          · rw [ins, if_neg (by omega), ins, if_pos hx, if_neg hxe]; rfl
      · rw [if_neg hy] at h2
        cases hb : ins y r with
        | none => rw [hb] at h2; cases h2
        | some b' =>
          rw [hb] at h2
          cases h2
          refine ⟨x :: z :: b', ?_, ?_⟩
          · rw [ins, if_neg (by omega), ins, if_neg hy, hb]; rfl
          · rw [ins, if_pos hx, if_neg hxe]
    · rw [if_neg hx] at h1
      cases ha : ins x r with
      | none => rw [ha] at h1; cases h1
      | some a' =>
        rw [ha] at h1
        cases h1
        by_cases hy : y.s ≤ z.s
        · rw [if_pos hy] at h2
          split at h2
          · cases h2
          rename_i hye
          cases h2
          refine ⟨y :: z :: a', ?_, ?_⟩
          · rw [ins, if_pos hy, if_neg hye]
          · rw [ins, if_neg (by omega), ins, if_neg hx, ha]; rfl
        · rw [if_neg hy] at h2
          cases hb : ins y r with
          | none => rw [hb] at h2; cases h2
          | some b' =>
            rw [hb] at h2
            cases h2
            obtain ⟨m, g1, g2⟩ := ins_comm hne ha hb
            refine ⟨z :: m, ?_, ?_⟩
            · rw [ins, if_neg hy, g1]; rfl
            · rw [ins, if_neg hx, g2]; rfl
theorem ins_any {x : It} : ∀ {l a : List It}, ins x l = some a → (a.any fun z => decide (z.s = x.s)) = true
  | [], a, h => by simp [ins] at h; subst h; simp
  | z :: r, a, h => by
    unfold ins at h
    split at h
    · split at h
      · cases h
      · cases h; simp
    · cases ha : ins x r with
      | none => rw [ha] at h; cases h
      | some a' =>
        rw [ha] at h
        cases h
        rw [List.any_cons, ins_any ha, Bool.or_true]
theorem ris_cons {want win : Int} {p : Option Int} {x : It} {r : List It} : risB want win p (x :: r) = true ↔ (fitsB x.s want win = true ∧ inB x.v 0 2147483647 = true ∧ (∀ q, p = some q → q < x.s) ∧ risB want win (some x.s) r = true) := by
  cases p with
  | none => simp [risB, Bool.and_eq_true, and_assoc]
  | some q => simp [risB, Bool.and_eq_true, and_assoc]
theorem ris_ins {want win : Int} {x : It} (hf : fitsB x.s want win = true) (hv : inB x.v 0 2147483647 = true) : ∀ {l a : List It} {p : Option Int}, (∀ q, p = some q → q < x.s) → risB want win p l = true → ins x l = some a → risB want win p a = true
  | [], a, p, hp, _, h => by
    simp [ins] at h
    subst h
    exact ris_cons.2 ⟨hf, hv, hp, rfl⟩
  | z :: r, a, p, hp, hl, h => by
    obtain ⟨g1, g2, g3, g4⟩ := ris_cons.1 hl
    unfold ins at h
    split at h
    · split at h
      · cases h
      · cases h
        exact ris_cons.2 ⟨hf, hv, hp, ris_cons.2 ⟨g1, g2, fun q hq => by cases hq; omega, g4⟩⟩
    · cases ha : ins x r with
      | none => rw [ha] at h; cases h
      | some a' =>
        rw [ha] at h
        cases h
        exact ris_cons.2 ⟨g1, g2, g3, ris_ins hf hv (fun q hq => by cases hq; omega) g4 ha⟩
theorem ah_ins {l a : List It} {want win : Int} {x : It} (h : ahOK l want win = true) (hf : fitsB x.s want win = true) (hv : inB x.v 0 2147483647 = true) (hi : ins x l = some a) : ahOK a want win = true := by
  simp only [ahOK, Bool.and_eq_true] at h ⊢
  exact ⟨h.1, ris_ins hf hv (fun q hq => by cases hq) h.2 hi⟩
theorem addA_is {l : List It} {want win : Int} {x : It} (h : ahOK l want win = true) : (∃ a, addA l want win x = (a, 0) ∧ inB x.v 0 2147483647 = true ∧ fitsB x.s want win = true ∧ ins x l = some a) ∨ (∃ e, addA l want win x = ([], e) ∧ decide (e = 0) = false) := by
  unfold addA
  rw [h]
  cases inB x.v 0 2147483647 with
  | false => exact .inr ⟨1, rfl, rfl⟩
  | true => cases fitsB x.s want win with
    | false => exact .inr ⟨6, rfl, rfl⟩
    | true => cases hi : ins x l with
      | none => exact .inr ⟨8, rfl, rfl⟩
      | some a => exact .inl ⟨a, rfl, rfl, rfl, rfl⟩
theorem addA_ok {l a : List It} {want win : Int} {x : It} (h : ahOK l want win = true) (hf : fitsB x.s want win = true) (hv : inB x.v 0 2147483647 = true) (hi : ins x l = some a) : addA l want win x = (a, 0) := by
  unfold addA
  rw [h, hv, hf, hi]
  rfl
theorem addA_no {l : List It} {want win : Int} {x : It} (h : ahOK l want win = true) (hf : fitsB x.s want win = true) (hv : inB x.v 0 2147483647 = true) (hi : ins x l = none) : addA l want win x = ([], 8) := by
  unfold addA
  rw [h, hv, hf, hi]
  rfl
theorem e12 (l : List It) (want win : Int) (x y : It) : TT 1000 13 12 [.one (rT l), iV want, iV win, aT x, aT y] = some (bV true, []) := by
  rw [t12, F_ev rfl]
  cases h40 : decide ((l.length : Int) > 40) with
  | true => simp only [h40, List.length_map, j12, b12, q12, qq, oo, pp, purS, S.pur, V.pur, V.pur1, purs, pur1s, mentS, S.ment, S.ment.smt, ments, V.ment, List.append_nil, Hp.ok64, List.all_nil, List.all_cons, S.purT, S.purT.sp, S.self, V.self, selfs, S.self.sself, Hp.self, S.ren, S.ren.sren, V.ren, Hp.ren, true_or, or_true, false_or, or_false, Bool.and_true, Bool.true_and, Bool.and_false, Bool.false_and, Bool.and_self, hand, handSs, handS, handVs, handV, handBs, upTo, one1, List.contains_nil, List.isEmpty_nil, List.take_length, List.getElem?_cons_zero, List.getElem?_cons_succ, fillV, fillR, setAt, List.set_cons_zero, List.set_cons_succ, List.replicate, evE, asRow, callS, callT, callU, names, dedup, blkMents, Blk.mentB, idxOf, V.mapS, S.mapS, S.mapS.smapS, Blk.mapS, encs, encB, isBox, backN, hpBack, killsV, killsS, killsS.ks, killsB, rowsOf, without, keysOk, noTup, boxesOk, fresh, Option.isNone_none, Blk.ren, aloOk, aloV, aloB, frzL, freezes, Go.Proofs.YtjafaefiigingaaR.freeze, drop1, S.frz, S.frz.sf, V.frz, Blk.frz, slMent, pickL, List.map_append, S.kill, S.kill.sk, V.kill, Blk.kill, eqvs, ones, Bool.not_true, Bool.not_false, decide_true, decide_false, List.length_append, Int.le_refl, Int.toNat_natCast, Int.toNat_one, Int.cast_ofNat_Int, List.all_nil, List.contains_cons, Nat.reduceBEq, Bool.false_or, Bool.or_false, Bool.true_or, Bool.or_true, look_hit, look_end, look_miss, List.map_cons, List.map_nil, List.cons_append, List.nil_append, Option.getD_some, Option.getD_none, X.ev, ev, bin, ibin, Option.map_some, Option.map_none, Option.bind_some, S.cells, rd, sub, Go.Proofs.YtjafaefiigingaaR.shape, asI, bnd, evs, Rs.ev, R.ev, params, okKey, Nat.reduceAdd, Nat.reduceMul, Nat.reduceDiv, Nat.reduceEqDiff, Nat.reduceLeDiff, Nat.reduceLT, Int.reduceEq, Int.reduceNe, Int.reduceLT, Int.reduceLE, Int.reduceAdd, Int.reduceSub, Int.reduceMul, Int.reduceNeg, Int.reduceToNat, Int.reducePow, Nat.reducePow, Int.toNat_zero, not_false_eq_true, not_true_eq_false, reduceCtorEq, Nat.zero_add, Nat.add_zero, reduceIte, if_true, if_false, Bool.true_eq_false, Bool.false_eq_true, List.length_cons, List.length_nil, and_self, true_and, and_true, List.drop_zero, List.take_succ_cons, List.take_zero, List.drop_succ_cons, Nat.le_refl]
  | false =>
  have hl : l.length ≤ 40 := by simp at h40; omega
  have h41 := fun d => e41 1000 d l want win (by omega) (by omega)
  cases hA : ahOK l want win with
  | false =>
    rw [hA] at h41
    simp only [h40, h41, List.length_map, j12, b12, q12, qq, oo, pp, purS, S.pur, V.pur, V.pur1, purs, pur1s, mentS, S.ment, S.ment.smt, ments, V.ment, List.append_nil, Hp.ok64, List.all_nil, List.all_cons, S.purT, S.purT.sp, S.self, V.self, selfs, S.self.sself, Hp.self, S.ren, S.ren.sren, V.ren, Hp.ren, true_or, or_true, false_or, or_false, Bool.and_true, Bool.true_and, Bool.and_false, Bool.false_and, Bool.and_self, hand, handSs, handS, handVs, handV, handBs, upTo, one1, List.contains_nil, List.isEmpty_nil, List.take_length, List.getElem?_cons_zero, List.getElem?_cons_succ, fillV, fillR, setAt, List.set_cons_zero, List.set_cons_succ, List.replicate, evE, asRow, callS, callT, callU, names, dedup, blkMents, Blk.mentB, idxOf, V.mapS, S.mapS, S.mapS.smapS, Blk.mapS, encs, encB, isBox, backN, hpBack, killsV, killsS, killsS.ks, killsB, rowsOf, without, keysOk, noTup, boxesOk, fresh, Option.isNone_none, Blk.ren, aloOk, aloV, aloB, frzL, freezes, Go.Proofs.YtjafaefiigingaaR.freeze, drop1, S.frz, S.frz.sf, V.frz, Blk.frz, slMent, pickL, List.map_append, S.kill, S.kill.sk, V.kill, Blk.kill, eqvs, ones, Bool.not_true, Bool.not_false, decide_true, decide_false, List.length_append, Int.le_refl, Int.toNat_natCast, Int.toNat_one, Int.cast_ofNat_Int, List.all_nil, List.contains_cons, Nat.reduceBEq, Bool.false_or, Bool.or_false, Bool.true_or, Bool.or_true, look_hit, look_end, look_miss, List.map_cons, List.map_nil, List.cons_append, List.nil_append, Option.getD_some, Option.getD_none, X.ev, ev, bin, ibin, Option.map_some, Option.map_none, Option.bind_some, S.cells, rd, sub, Go.Proofs.YtjafaefiigingaaR.shape, asI, bnd, evs, Rs.ev, R.ev, params, okKey, Nat.reduceAdd, Nat.reduceMul, Nat.reduceDiv, Nat.reduceEqDiff, Nat.reduceLeDiff, Nat.reduceLT, Int.reduceEq, Int.reduceNe, Int.reduceLT, Int.reduceLE, Int.reduceAdd, Int.reduceSub, Int.reduceMul, Int.reduceNeg, Int.reduceToNat, Int.reducePow, Nat.reducePow, Int.toNat_zero, not_false_eq_true, not_true_eq_false, reduceCtorEq, Nat.zero_add, Nat.add_zero, reduceIte, if_true, if_false, Bool.true_eq_false, Bool.false_eq_true, List.length_cons, List.length_nil, and_self, true_and, and_true, List.drop_zero, List.take_succ_cons, List.take_zero, List.drop_succ_cons, Nat.le_refl]
  | true =>
  rw [hA] at h41
  have hx := fun d => e37 1000 d l want win x (by omega) (by omega)
  have hy := fun d => e37 1000 d l want win y (by omega) (by omega)
  have hw0 := w0
  have hz0 : IntKind.i64.wrap 0 = 0 := by decide
  rcases addA_is (x := x) hA with ⟨a, k1, x1, x2, x3⟩ | ⟨e, k1, k2⟩ <;> rcases addA_is (x := y) hA with ⟨b, m1, y1, y2, y3⟩ | ⟨f, m1, m2⟩ <;> rw [k1] at hx <;> rw [m1] at hy
  · have hal := ins_len x3
    have hbl := ins_len y3
    have hxy := fun d => e37 1000 d a want win y (by omega) (by omega)
    have hyx := fun d => e37 1000 d b want win x (by omega) (by omega)
    have hAa := ah_ins hA x2 x1 x3
    have hAb := ah_ins hA y2 y1 y3
    by_cases hs : x.s = y.s
    · have hra : risB want win none a = true := by simp only [ahOK, Bool.and_eq_true] at hAa; exact hAa.2
      have hrb : risB want win none b = true := by simp only [ahOK, Bool.and_eq_true] at hAb; exact hAb.2
      have ea := ins_any x3
      have eb := ins_any y3
      rw [hs] at ea
      rw [← hs] at eb
      rw [addA_no hAa y2 y1 (ins_no hra ea)] at hxy
      rw [addA_no hAb x2 x1 (ins_no hrb eb)] at hyx
      have hd : decide (x.s = y.s) = true := by simpa using hs
      simp only [h40, h41, hx, hy, hxy, hyx, hd, hz0, hw0, List.length_map, j12, b12, q12, qq, oo, pp, purS, S.pur, V.pur, V.pur1, purs, pur1s, mentS, S.ment, S.ment.smt, ments, V.ment, List.append_nil, Hp.ok64, List.all_nil, List.all_cons, S.purT, S.purT.sp, S.self, V.self, selfs, S.self.sself, Hp.self, S.ren, S.ren.sren, V.ren, Hp.ren, true_or, or_true, false_or, or_false, Bool.and_true, Bool.true_and, Bool.and_false, Bool.false_and, Bool.and_self, hand, handSs, handS, handVs, handV, handBs, upTo, one1, List.contains_nil, List.isEmpty_nil, List.take_length, List.getElem?_cons_zero, List.getElem?_cons_succ, fillV, fillR, setAt, List.set_cons_zero, List.set_cons_succ, List.replicate, evE, asRow, callS, callT, callU, names, dedup, blkMents, Blk.mentB, idxOf, V.mapS, S.mapS, S.mapS.smapS, Blk.mapS, encs, encB, isBox, backN, hpBack, killsV, killsS, killsS.ks, killsB, rowsOf, without, keysOk, noTup, boxesOk, fresh, Option.isNone_none, Blk.ren, aloOk, aloV, aloB, frzL, freezes, Go.Proofs.YtjafaefiigingaaR.freeze, drop1, S.frz, S.frz.sf, V.frz, Blk.frz, slMent, pickL, List.map_append, S.kill, S.kill.sk, V.kill, Blk.kill, eqvs, ones, Bool.not_true, Bool.not_false, decide_true, decide_false, List.length_append, Int.le_refl, Int.toNat_natCast, Int.toNat_one, Int.cast_ofNat_Int, List.all_nil, List.contains_cons, Nat.reduceBEq, Bool.false_or, Bool.or_false, Bool.true_or, Bool.or_true, look_hit, look_end, look_miss, List.map_cons, List.map_nil, List.cons_append, List.nil_append, Option.getD_some, Option.getD_none, X.ev, ev, bin, ibin, Option.map_some, Option.map_none, Option.bind_some, S.cells, rd, sub, Go.Proofs.YtjafaefiigingaaR.shape, asI, bnd, evs, Rs.ev, R.ev, params, okKey, Nat.reduceAdd, Nat.reduceMul, Nat.reduceDiv, Nat.reduceEqDiff, Nat.reduceLeDiff, Nat.reduceLT, Int.reduceEq, Int.reduceNe, Int.reduceLT, Int.reduceLE, Int.reduceAdd, Int.reduceSub, Int.reduceMul, Int.reduceNeg, Int.reduceToNat, Int.reducePow, Nat.reducePow, Int.toNat_zero, not_false_eq_true, not_true_eq_false, reduceCtorEq, Nat.zero_add, Nat.add_zero, reduceIte, if_true, if_false, Bool.true_eq_false, Bool.false_eq_true, List.length_cons, List.length_nil, and_self, true_and, and_true, List.drop_zero, List.take_succ_cons, List.take_zero, List.drop_succ_cons, Nat.le_refl]
    · obtain ⟨m, c1, c2⟩ := ins_comm hs x3 y3
      rw [addA_ok hAa y2 y1 c1] at hxy
      rw [addA_ok hAb x2 x1 c2] at hyx
      have hml := ins_len c1
      have hAm := ah_ins hAa y2 y1 c1
      have h42 := fun d => e42 1000 d m want win (by omega) (by omega)
      rw [hAm] at h42
      have hm := fun d => e40r d m (by omega)
      have hd : decide (x.s = y.s) = false := by simpa using hs
      have hw : IntKind.i64.wrap ((l.length : Int) + 2) = (m.length : Int) := by rw [IntWalk.i64_in _ (by omega)]; omega
      simp only [h40, h41, hx, hy, hxy, hyx, hd, hm, h42, hw, hw0, List.length_map, j12, b12, q12, qq, oo, pp, purS, S.pur, V.pur, V.pur1, purs, pur1s, mentS, S.ment, S.ment.smt, ments, V.ment, List.append_nil, Hp.ok64, List.all_nil, List.all_cons, S.purT, S.purT.sp, S.self, V.self, selfs, S.self.sself, Hp.self, S.ren, S.ren.sren, V.ren, Hp.ren, true_or, or_true, false_or, or_false, Bool.and_true, Bool.true_and, Bool.and_false, Bool.false_and, Bool.and_self, hand, handSs, handS, handVs, handV, handBs, upTo, one1, List.contains_nil, List.isEmpty_nil, List.take_length, List.getElem?_cons_zero, List.getElem?_cons_succ, fillV, fillR, setAt, List.set_cons_zero, List.set_cons_succ, List.replicate, evE, asRow, callS, callT, callU, names, dedup, blkMents, Blk.mentB, idxOf, V.mapS, S.mapS, S.mapS.smapS, Blk.mapS, encs, encB, isBox, backN, hpBack, killsV, killsS, killsS.ks, killsB, rowsOf, without, keysOk, noTup, boxesOk, fresh, Option.isNone_none, Blk.ren, aloOk, aloV, aloB, frzL, freezes, Go.Proofs.YtjafaefiigingaaR.freeze, drop1, S.frz, S.frz.sf, V.frz, Blk.frz, slMent, pickL, List.map_append, S.kill, S.kill.sk, V.kill, Blk.kill, eqvs, ones, Bool.not_true, Bool.not_false, decide_true, decide_false, List.length_append, Int.le_refl, Int.toNat_natCast, Int.toNat_one, Int.cast_ofNat_Int, List.all_nil, List.contains_cons, Nat.reduceBEq, Bool.false_or, Bool.or_false, Bool.true_or, Bool.or_true, look_hit, look_end, look_miss, List.map_cons, List.map_nil, List.cons_append, List.nil_append, Option.getD_some, Option.getD_none, X.ev, ev, bin, ibin, Option.map_some, Option.map_none, Option.bind_some, S.cells, rd, sub, Go.Proofs.YtjafaefiigingaaR.shape, asI, bnd, evs, Rs.ev, R.ev, params, okKey, Nat.reduceAdd, Nat.reduceMul, Nat.reduceDiv, Nat.reduceEqDiff, Nat.reduceLeDiff, Nat.reduceLT, Int.reduceEq, Int.reduceNe, Int.reduceLT, Int.reduceLE, Int.reduceAdd, Int.reduceSub, Int.reduceMul, Int.reduceNeg, Int.reduceToNat, Int.reducePow, Nat.reducePow, Int.toNat_zero, not_false_eq_true, not_true_eq_false, reduceCtorEq, Nat.zero_add, Nat.add_zero, reduceIte, if_true, if_false, Bool.true_eq_false, Bool.false_eq_true, List.length_cons, List.length_nil, and_self, true_and, and_true, List.drop_zero, List.take_succ_cons, List.take_zero, List.drop_succ_cons, Nat.le_refl]
  · simp only [h40, h41, hx, hy, m2, hw0, List.length_map, j12, b12, q12, qq, oo, pp, purS, S.pur, V.pur, V.pur1, purs, pur1s, mentS, S.ment, S.ment.smt, ments, V.ment, List.append_nil, Hp.ok64, List.all_nil, List.all_cons, S.purT, S.purT.sp, S.self, V.self, selfs, S.self.sself, Hp.self, S.ren, S.ren.sren, V.ren, Hp.ren, true_or, or_true, false_or, or_false, Bool.and_true, Bool.true_and, Bool.and_false, Bool.false_and, Bool.and_self, hand, handSs, handS, handVs, handV, handBs, upTo, one1, List.contains_nil, List.isEmpty_nil, List.take_length, List.getElem?_cons_zero, List.getElem?_cons_succ, fillV, fillR, setAt, List.set_cons_zero, List.set_cons_succ, List.replicate, evE, asRow, callS, callT, callU, names, dedup, blkMents, Blk.mentB, idxOf, V.mapS, S.mapS, S.mapS.smapS, Blk.mapS, encs, encB, isBox, backN, hpBack, killsV, killsS, killsS.ks, killsB, rowsOf, without, keysOk, noTup, boxesOk, fresh, Option.isNone_none, Blk.ren, aloOk, aloV, aloB, frzL, freezes, Go.Proofs.YtjafaefiigingaaR.freeze, drop1, S.frz, S.frz.sf, V.frz, Blk.frz, slMent, pickL, List.map_append, S.kill, S.kill.sk, V.kill, Blk.kill, eqvs, ones, Bool.not_true, Bool.not_false, decide_true, decide_false, List.length_append, Int.le_refl, Int.toNat_natCast, Int.toNat_one, Int.cast_ofNat_Int, List.all_nil, List.contains_cons, Nat.reduceBEq, Bool.false_or, Bool.or_false, Bool.true_or, Bool.or_true, look_hit, look_end, look_miss, List.map_cons, List.map_nil, List.cons_append, List.nil_append, Option.getD_some, Option.getD_none, X.ev, ev, bin, ibin, Option.map_some, Option.map_none, Option.bind_some, S.cells, rd, sub, Go.Proofs.YtjafaefiigingaaR.shape, asI, bnd, evs, Rs.ev, R.ev, params, okKey, Nat.reduceAdd, Nat.reduceMul, Nat.reduceDiv, Nat.reduceEqDiff, Nat.reduceLeDiff, Nat.reduceLT, Int.reduceEq, Int.reduceNe, Int.reduceLT, Int.reduceLE, Int.reduceAdd, Int.reduceSub, Int.reduceMul, Int.reduceNeg, Int.reduceToNat, Int.reducePow, Nat.reducePow, Int.toNat_zero, not_false_eq_true, not_true_eq_false, reduceCtorEq, Nat.zero_add, Nat.add_zero, reduceIte, if_true, if_false, Bool.true_eq_false, Bool.false_eq_true, List.length_cons, List.length_nil, and_self, true_and, and_true, List.drop_zero, List.take_succ_cons, List.take_zero, List.drop_succ_cons, Nat.le_refl]
  · simp only [h40, h41, hx, hy, k2, hw0, List.length_map, j12, b12, q12, qq, oo, pp, purS, S.pur, V.pur, V.pur1, purs, pur1s, mentS, S.ment, S.ment.smt, ments, V.ment, List.append_nil, Hp.ok64, List.all_nil, List.all_cons, S.purT, S.purT.sp, S.self, V.self, selfs, S.self.sself, Hp.self, S.ren, S.ren.sren, V.ren, Hp.ren, true_or, or_true, false_or, or_false, Bool.and_true, Bool.true_and, Bool.and_false, Bool.false_and, Bool.and_self, hand, handSs, handS, handVs, handV, handBs, upTo, one1, List.contains_nil, List.isEmpty_nil, List.take_length, List.getElem?_cons_zero, List.getElem?_cons_succ, fillV, fillR, setAt, List.set_cons_zero, List.set_cons_succ, List.replicate, evE, asRow, callS, callT, callU, names, dedup, blkMents, Blk.mentB, idxOf, V.mapS, S.mapS, S.mapS.smapS, Blk.mapS, encs, encB, isBox, backN, hpBack, killsV, killsS, killsS.ks, killsB, rowsOf, without, keysOk, noTup, boxesOk, fresh, Option.isNone_none, Blk.ren, aloOk, aloV, aloB, frzL, freezes, Go.Proofs.YtjafaefiigingaaR.freeze, drop1, S.frz, S.frz.sf, V.frz, Blk.frz, slMent, pickL, List.map_append, S.kill, S.kill.sk, V.kill, Blk.kill, eqvs, ones, Bool.not_true, Bool.not_false, decide_true, decide_false, List.length_append, Int.le_refl, Int.toNat_natCast, Int.toNat_one, Int.cast_ofNat_Int, List.all_nil, List.contains_cons, Nat.reduceBEq, Bool.false_or, Bool.or_false, Bool.true_or, Bool.or_true, look_hit, look_end, look_miss, List.map_cons, List.map_nil, List.cons_append, List.nil_append, Option.getD_some, Option.getD_none, X.ev, ev, bin, ibin, Option.map_some, Option.map_none, Option.bind_some, S.cells, rd, sub, Go.Proofs.YtjafaefiigingaaR.shape, asI, bnd, evs, Rs.ev, R.ev, params, okKey, Nat.reduceAdd, Nat.reduceMul, Nat.reduceDiv, Nat.reduceEqDiff, Nat.reduceLeDiff, Nat.reduceLT, Int.reduceEq, Int.reduceNe, Int.reduceLT, Int.reduceLE, Int.reduceAdd, Int.reduceSub, Int.reduceMul, Int.reduceNeg, Int.reduceToNat, Int.reducePow, Nat.reducePow, Int.toNat_zero, not_false_eq_true, not_true_eq_false, reduceCtorEq, Nat.zero_add, Nat.add_zero, reduceIte, if_true, if_false, Bool.true_eq_false, Bool.false_eq_true, List.length_cons, List.length_nil, and_self, true_and, and_true, List.drop_zero, List.take_succ_cons, List.take_zero, List.drop_succ_cons, Nat.le_refl]
  · simp only [h40, h41, hx, hy, k2, m2, hw0, List.length_map, j12, b12, q12, qq, oo, pp, purS, S.pur, V.pur, V.pur1, purs, pur1s, mentS, S.ment, S.ment.smt, ments, V.ment, List.append_nil, Hp.ok64, List.all_nil, List.all_cons, S.purT, S.purT.sp, S.self, V.self, selfs, S.self.sself, Hp.self, S.ren, S.ren.sren, V.ren, Hp.ren, true_or, or_true, false_or, or_false, Bool.and_true, Bool.true_and, Bool.and_false, Bool.false_and, Bool.and_self, hand, handSs, handS, handVs, handV, handBs, upTo, one1, List.contains_nil, List.isEmpty_nil, List.take_length, List.getElem?_cons_zero, List.getElem?_cons_succ, fillV, fillR, setAt, List.set_cons_zero, List.set_cons_succ, List.replicate, evE, asRow, callS, callT, callU, names, dedup, blkMents, Blk.mentB, idxOf, V.mapS, S.mapS, S.mapS.smapS, Blk.mapS, encs, encB, isBox, backN, hpBack, killsV, killsS, killsS.ks, killsB, rowsOf, without, keysOk, noTup, boxesOk, fresh, Option.isNone_none, Blk.ren, aloOk, aloV, aloB, frzL, freezes, Go.Proofs.YtjafaefiigingaaR.freeze, drop1, S.frz, S.frz.sf, V.frz, Blk.frz, slMent, pickL, List.map_append, S.kill, S.kill.sk, V.kill, Blk.kill, eqvs, ones, Bool.not_true, Bool.not_false, decide_true, decide_false, List.length_append, Int.le_refl, Int.toNat_natCast, Int.toNat_one, Int.cast_ofNat_Int, List.all_nil, List.contains_cons, Nat.reduceBEq, Bool.false_or, Bool.or_false, Bool.true_or, Bool.or_true, look_hit, look_end, look_miss, List.map_cons, List.map_nil, List.cons_append, List.nil_append, Option.getD_some, Option.getD_none, X.ev, ev, bin, ibin, Option.map_some, Option.map_none, Option.bind_some, S.cells, rd, sub, Go.Proofs.YtjafaefiigingaaR.shape, asI, bnd, evs, Rs.ev, R.ev, params, okKey, Nat.reduceAdd, Nat.reduceMul, Nat.reduceDiv, Nat.reduceEqDiff, Nat.reduceLeDiff, Nat.reduceLT, Int.reduceEq, Int.reduceNe, Int.reduceLT, Int.reduceLE, Int.reduceAdd, Int.reduceSub, Int.reduceMul, Int.reduceNeg, Int.reduceToNat, Int.reducePow, Nat.reducePow, Int.toNat_zero, not_false_eq_true, not_true_eq_false, reduceCtorEq, Nat.zero_add, Nat.add_zero, reduceIte, if_true, if_false, Bool.true_eq_false, Bool.false_eq_true, List.length_cons, List.length_nil, and_self, true_and, and_true, List.drop_zero, List.take_succ_cons, List.take_zero, List.drop_succ_cons, Nat.le_refl]
end Go.Proofs.Ytjafaefiigingaa.AA
