import Derived.Test.YtbkemldecbcfhaaDoorEM
set_option linter.unusedSimpArgs false
set_option linter.unusedVariables false
namespace Go.Proofs.YtbkemldecbcfhaaDoor.EC
open Go Go.Proofs.YtbkemldecbcfhaaDoorR Go.Proofs.YtbkemldecbcfhaaDoor.IS Go.Proofs.YtbkemldecbcfhaaDoor.EA
set_option maxRecDepth 100000
set_option maxHeartbeats 8000000
theorem w06 : TT 5000 12 18 [] = some (bV true, []) := by kernel_rfl
theorem stp_rep (c : Int) : ∀ (n Z : Nat), Z ≤ n → stp (List.replicate Z c) = List.replicate (Z / 5) ⟨c, c, c, c, c⟩
  | n, Z, hn => by
    by_cases h : Z < 5
    · rw [stp_short (by simpa using h), show Z / 5 = 0 by omega]; rfl
    · have := stp_rep c (n - 5) (Z - 5) (by omega)
      rw [show Z = (Z - 5) + 1 + 1 + 1 + 1 + 1 by omega]
      simp only [List.replicate_succ, stp, this]
      rw [show (Z - 5 + 1 + 1 + 1 + 1 + 1) / 5 = (Z - 5) / 5 + 1 by omega, List.replicate_succ]
  termination_by n Z => Z
  decreasing_by omega
/-- So many bytes set. -/
def setB (c : Int) (Z i : Nat) : List Int := List.replicate i c ++ List.replicate (Z - i) 0
theorem setB_len (c : Int) (Z i : Nat) (h : i ≤ Z) : (setB c Z i).length = Z := by simp [setB]; omega
theorem setB_s (c : Int) (Z i : Nat) (h : i < Z) : ((setB c Z i).map eU).set i (eU c) = (setB c Z (i + 1)).map eU := by
  rw [← List.map_set]
  congr 1
  have e1 : List.replicate (Z - i) (0 : Int) = 0 :: List.replicate (Z - (i + 1)) 0 := by rw [show Z - i = (Z - (i + 1)) + 1 by omega, List.replicate_succ]
  unfold setB
  rw [e1, List.replicate_succ', List.append_assoc, List.set_append_right _ _ (by simp)]
  simp
theorem setB_get (c : Int) (Z i : Nat) (h : i < Z) : ((setB c Z i).map eU)[i]? = some (eU 0) := by
  unfold setB
  rw [List.getElem?_map, List.getElem?_append_right (by simp), List.length_replicate, Nat.sub_self, List.getElem?_replicate, if_pos (by omega)]
  rfl
theorem selfU (l : List Int) : (l.map eU).all selfs = true := by simp [selfs, V.self]
theorem selfP (L : List Sp) : (L.map eP).all selfs = true := by
  rw [List.all_eq_true]
  intro x hx
  obtain ⟨s, _, rfl⟩ := List.mem_map.1 hx
  rfl
theorem e6 (n c : Int) (hc : 0 ≤ c ∧ c ≤ 255) : TT 5000 13 6 [iV n, .one (.int .u8 c)] = some (bV true, []) := by
  have hw0 := w06
  obtain ⟨q1, q2⟩ := kmod n 20 (by decide) (by decide)
  generalize hq : IntKind.i64.wrap ((IntKind.u64.wrap n).tmod 20) = q at q1 q2
  obtain ⟨Q, rfl⟩ : ∃ Q : Nat, q = (Q : Int) := ⟨q.toNat, by omega⟩
  obtain ⟨Z, hZ⟩ : ∃ Z : Nat, Z + Q = 4000 := ⟨4000 - Q, by omega⟩
  have hz : IntKind.i64.wrap (4000 - (Q : Int)) = (Z : Int) := by rw [w64 (by omega)]; omega
  have hcw : IntKind.i64.wrap c = c := w64 (by omega)
  have hz0 : (0 : Int) ≤ (Z : Int) := by omega
  have hz1 : (Z : Int) * 1 ≤ 140737488355328 := by omega
  have hq1 : IntKind.i64.wrap ((Q : Int) + 1) = ((Q + 1 : Nat) : Int) := by rw [w64 (by omega)]; omega
  rw [t6, F_ev rfl]
  have hrep : List.replicate Z [V.int .u8 0] = (setB c Z 0).map eU := by simp [setB]
  simp only [hq, hz, hz0, hz1, hrep, Int.toNat_natCast, j6, b6, q6, qq, oo3, go_mkp, go_stp, ments, V.ment, List.isEmpty_nil, oo, pp, lives, V.live, purS, S.pur, V.pur, V.pur1, purs, pur1s, mentS, S.ment, S.ment.smt, ments, V.ment, List.append_nil, Hp.ok64, List.all_nil, List.all_cons, S.purT, S.purT.sp, S.self, V.self, selfs, S.self.sself, Hp.self, S.ren, S.ren.sren, V.ren, Hp.ren, true_or, or_true, false_or, or_false, Bool.and_true, Bool.true_and, Bool.and_false, Bool.false_and, Bool.and_self, hand, handSs, handS, handVs, handV, handBs, upTo, one1, List.contains_nil, List.isEmpty_nil, List.take_length, List.getElem?_cons_zero, List.getElem?_cons_succ, fillV, fillR, setAt, List.set_cons_zero, List.set_cons_succ, List.replicate, evE, asRow, callS, callT, callU, names, dedup, blkMents, Blk.mentB, idxOf, V.mapS, S.mapS, S.mapS.smapS, Blk.mapS, encs, encB, isBox, backN, hpBack, killsV, killsS, killsS.ks, killsB, rowsOf, without, keysOk, noTup, boxesOk, fresh, Option.isNone_none, Blk.ren, aloOk, aloV, aloB, frzL, freezes, Go.Proofs.YtbkemldecbcfhaaDoorR.freeze, drop1, S.frz, S.frz.sf, V.frz, Blk.frz, slMent, pickL, List.map_append, S.kill, S.kill.sk, V.kill, Blk.kill, eqvs, ones, Bool.not_true, Bool.not_false, decide_true, decide_false, List.length_append, Int.le_refl, Int.toNat_natCast, Int.toNat_one, Int.cast_ofNat_Int, List.all_nil, List.contains_cons, Nat.reduceBEq, Bool.false_or, Bool.or_false, Bool.true_or, Bool.or_true, look_hit, look_end, look_miss, List.map_cons, List.map_nil, List.cons_append, List.nil_append, Option.getD_some, Option.getD_none, X.ev, ev, bin, ibin, Option.map_some, Option.map_none, Option.bind_some, S.cells, rd, sub, Go.Proofs.YtbkemldecbcfhaaDoorR.shape, asI, bnd, evs, Rs.ev, R.ev, params, okKey, Nat.reduceAdd, Nat.reduceMul, Nat.reduceDiv, Nat.reduceEqDiff, Nat.reduceLeDiff, Nat.reduceLT, Int.reduceEq, Int.reduceNe, Int.reduceLT, Int.reduceLE, Int.reduceAdd, Int.reduceSub, Int.reduceMul, Int.reduceNeg, Int.reduceToNat, Int.reducePow, Nat.reducePow, Int.toNat_zero, not_false_eq_true, not_true_eq_false, reduceCtorEq, Nat.zero_add, Nat.add_zero, reduceIte, if_true, if_false, Bool.true_eq_false, Bool.false_eq_true, List.length_cons, List.length_nil, and_self, true_and, and_true, List.drop_zero, List.take_succ_cons, List.take_zero, List.drop_succ_cons, Nat.le_refl]
  refine loopK (K := fun o => fin _ (aft _ _ _ o)) (fun i => ⟨[(0, iV Q), (1, .one (.int .u8 c)), (5, .one (.sl 1408 0 Z)), (6, iV i)], [(1408, .rows 5 1 ((setB c Z i).map eU))]⟩) (fun _ => some (bV true, [])) Z ?hr Z 0 5000 _ (by omega) (by omega) ?hk
  case hk => simp only [gcK, lowB, Nat.reduceLeDiff, Nat.reduceBEq, List.contains_nil, List.contains_cons, Bool.or_false, Bool.false_or, Bool.false_eq_true, if_false, Bool.true_and, Bool.and_true, pickL, look_hit, look_miss, look_end, slMent, hpMent, S.ment, S.ment.smt, ments, V.ment, List.append_nil, List.nil_append, List.cons_append, List.all_nil, List.all_cons, Option.isSome_some, Bool.and_self, if_true, reduceIte, Nat.reduceEqDiff, not_false_eq_true, reduceCtorEq, Nat.reduceMul, Nat.reduceAdd]; rfl
  case hr =>
    intro i n1 hi ih
    (try dsimp only)
    by_cases hlt : i < Z
    · have h1 : decide ((i : Int) < (Z : Int)) = true := by simp; omega
      have hset := setB_s c Z i hlt
      have hget := setB_get c Z i hlt
      have hsl := setB_len c Z i hi
      have hbi : 0 ≤ (i : Int) ∧ (i : Int) < (Z : Int) := by omega
      simp only [h1, hbi.1, hbi.2, hget, hset, hsl, wi i (by omega), List.length_map, Int.toNat_natCast, Nat.zero_add, j6, b6, q6, qq, oo3, go_mkp, go_stp, ments, V.ment, List.isEmpty_nil, oo, pp, lives, V.live, purS, S.pur, V.pur, V.pur1, purs, pur1s, mentS, S.ment, S.ment.smt, ments, V.ment, List.append_nil, Hp.ok64, List.all_nil, List.all_cons, S.purT, S.purT.sp, S.self, V.self, selfs, S.self.sself, Hp.self, S.ren, S.ren.sren, V.ren, Hp.ren, true_or, or_true, false_or, or_false, Bool.and_true, Bool.true_and, Bool.and_false, Bool.false_and, Bool.and_self, hand, handSs, handS, handVs, handV, handBs, upTo, one1, List.contains_nil, List.isEmpty_nil, List.take_length, List.getElem?_cons_zero, List.getElem?_cons_succ, fillV, fillR, setAt, List.set_cons_zero, List.set_cons_succ, List.replicate, evE, asRow, callS, callT, callU, names, dedup, blkMents, Blk.mentB, idxOf, V.mapS, S.mapS, S.mapS.smapS, Blk.mapS, encs, encB, isBox, backN, hpBack, killsV, killsS, killsS.ks, killsB, rowsOf, without, keysOk, noTup, boxesOk, fresh, Option.isNone_none, Blk.ren, aloOk, aloV, aloB, frzL, freezes, Go.Proofs.YtbkemldecbcfhaaDoorR.freeze, drop1, S.frz, S.frz.sf, V.frz, Blk.frz, slMent, pickL, List.map_append, S.kill, S.kill.sk, V.kill, Blk.kill, eqvs, ones, Bool.not_true, Bool.not_false, decide_true, decide_false, List.length_append, Int.le_refl, Int.toNat_natCast, Int.toNat_one, Int.cast_ofNat_Int, List.all_nil, List.contains_cons, Nat.reduceBEq, Bool.false_or, Bool.or_false, Bool.true_or, Bool.or_true, look_hit, look_end, look_miss, List.map_cons, List.map_nil, List.cons_append, List.nil_append, Option.getD_some, Option.getD_none, X.ev, ev, bin, ibin, Option.map_some, Option.map_none, Option.bind_some, S.cells, rd, sub, Go.Proofs.YtbkemldecbcfhaaDoorR.shape, asI, bnd, evs, Rs.ev, R.ev, params, okKey, Nat.reduceAdd, Nat.reduceMul, Nat.reduceDiv, Nat.reduceEqDiff, Nat.reduceLeDiff, Nat.reduceLT, Int.reduceEq, Int.reduceNe, Int.reduceLT, Int.reduceLE, Int.reduceAdd, Int.reduceSub, Int.reduceMul, Int.reduceNeg, Int.reduceToNat, Int.reducePow, Nat.reducePow, Int.toNat_zero, not_false_eq_true, not_true_eq_false, reduceCtorEq, Nat.zero_add, Nat.add_zero, reduceIte, if_true, if_false, Bool.true_eq_false, Bool.false_eq_true, List.length_cons, List.length_nil, and_self, true_and, and_true, List.drop_zero, List.take_succ_cons, List.take_zero, List.drop_succ_cons, Nat.le_refl]
      exact ih hlt _ (by simp only [gcK, lowB, Nat.reduceLeDiff, Nat.reduceBEq, List.contains_nil, List.contains_cons, Bool.or_false, Bool.false_or, Bool.false_eq_true, if_false, Bool.true_and, Bool.and_true, pickL, look_hit, look_miss, look_end, slMent, hpMent, S.ment, S.ment.smt, ments, V.ment, List.append_nil, List.nil_append, List.cons_append, List.all_nil, List.all_cons, Option.isSome_some, Bool.and_self, if_true, reduceIte, Nat.reduceEqDiff, not_false_eq_true, reduceCtorEq, Nat.reduceMul, Nat.reduceAdd])
    · obtain rfl : i = Z := by omega
      clear ih hrep
      have h1 : decide ((i : Int) < (i : Int)) = false := by simp
      obtain ⟨bb, hbb⟩ : ∃ bb, bb = setB c i i := ⟨_, rfl⟩
      have hb0 : bb = List.replicate i c := by rw [hbb]; simp [setB]
      have hbl : bb.length = i := by rw [hb0]; simp
      have hBs : Bs bb := fun y hy => by rw [hb0] at hy; rw [List.eq_of_mem_replicate hy]; exact hc
      obtain ⟨L, hL⟩ : ∃ L, L = stp bb := ⟨_, rfl⟩
      have hL0 : L = List.replicate (i / 5) ⟨c, c, c, c, c⟩ := by rw [hL, hb0]; exact stp_rep c _ i (Nat.le_refl _)
      have hLl : L.length = i / 5 := by rw [hL0]; simp
      have h9 : TT 5000 12 9 [.one (rU bb)] = some (.tup [.one (.sl 0 0 L.length), iV 0], [(0, .rows 27 5 (L.map eP))]) := by rw [hL]; exact e9 5000 11 bb hBs (by omega) (by omega)
      have h9l : TT 5000 12 9 [.one (.row (bb.map eU ++ [V.int .u8 0] :: List.replicate Q [V.int .u8 0]))] = some (.tup [.one (.sl 0 0 0), iV 2], [(0, .rows 27 5 [])]) := by
        have h := e9l 5000 11 (bb ++ List.replicate (Q + 1) 0) (by simp; omega)
        rw [show bb.map eU ++ [V.int .u8 0] :: List.replicate Q [V.int .u8 0] = (bb ++ List.replicate (Q + 1) 0).map eU by simp [List.replicate_succ]]
        exact h
      have hp1 : (0 : Int) < ((Q + 1 : Nat) : Int) := by omega
      have hp2 : ((i : Int) + ((Q + 1 : Nat) : Int)) * 1 ≤ 140737488355328 := by omega
      have hq5 : IntKind.i64.wrap ((i : Int).tdiv 5) = (L.length : Int) := by rw [Int.tdiv_eq_ediv_of_nonneg (by omega), w64 (by omega), hLl]; omega
      have hLL : decide ((L.length : Int) = (L.length : Int)) = true := by simp
      have htb : List.take i (bb.map eU) = bb.map eU := List.take_of_length_le (by rw [List.length_map]; omega)
      rw [← hbb]
      simp only [h1, h9, h9l, hq1, hp1, hp2, hq5, hLL, htb, hbl, takeP, selfP, go_apl, List.length_map, Int.toNat_natCast, Nat.zero_add, Nat.le_refl, j6, b6, q6, qq, oo3, go_mkp, go_stp, ments, V.ment, List.isEmpty_nil, oo, pp, lives, V.live, purS, S.pur, V.pur, V.pur1, purs, pur1s, mentS, S.ment, S.ment.smt, ments, V.ment, List.append_nil, Hp.ok64, List.all_nil, List.all_cons, S.purT, S.purT.sp, S.self, V.self, selfs, S.self.sself, Hp.self, S.ren, S.ren.sren, V.ren, Hp.ren, true_or, or_true, false_or, or_false, Bool.and_true, Bool.true_and, Bool.and_false, Bool.false_and, Bool.and_self, hand, handSs, handS, handVs, handV, handBs, upTo, one1, List.contains_nil, List.isEmpty_nil, List.take_length, List.getElem?_cons_zero, List.getElem?_cons_succ, fillV, fillR, setAt, List.set_cons_zero, List.set_cons_succ, List.replicate, evE, asRow, callS, callT, callU, names, dedup, blkMents, Blk.mentB, idxOf, V.mapS, S.mapS, S.mapS.smapS, Blk.mapS, encs, encB, isBox, backN, hpBack, killsV, killsS, killsS.ks, killsB, rowsOf, without, keysOk, noTup, boxesOk, fresh, Option.isNone_none, Blk.ren, aloOk, aloV, aloB, frzL, freezes, Go.Proofs.YtbkemldecbcfhaaDoorR.freeze, drop1, S.frz, S.frz.sf, V.frz, Blk.frz, slMent, pickL, List.map_append, S.kill, S.kill.sk, V.kill, Blk.kill, eqvs, ones, Bool.not_true, Bool.not_false, decide_true, decide_false, List.length_append, Int.le_refl, Int.toNat_natCast, Int.toNat_one, Int.cast_ofNat_Int, List.all_nil, List.contains_cons, Nat.reduceBEq, Bool.false_or, Bool.or_false, Bool.true_or, Bool.or_true, look_hit, look_end, look_miss, List.map_cons, List.map_nil, List.cons_append, List.nil_append, Option.getD_some, Option.getD_none, X.ev, ev, bin, ibin, Option.map_some, Option.map_none, Option.bind_some, S.cells, rd, sub, Go.Proofs.YtbkemldecbcfhaaDoorR.shape, asI, bnd, evs, Rs.ev, R.ev, params, okKey, Nat.reduceAdd, Nat.reduceMul, Nat.reduceDiv, Nat.reduceEqDiff, Nat.reduceLeDiff, Nat.reduceLT, Int.reduceEq, Int.reduceNe, Int.reduceLT, Int.reduceLE, Int.reduceAdd, Int.reduceSub, Int.reduceMul, Int.reduceNeg, Int.reduceToNat, Int.reducePow, Nat.reducePow, Int.toNat_zero, not_false_eq_true, not_true_eq_false, reduceCtorEq, Nat.zero_add, Nat.add_zero, reduceIte, if_true, if_false, Bool.true_eq_false, Bool.false_eq_true, List.length_cons, List.length_nil, and_self, true_and, and_true, List.drop_zero, List.take_succ_cons, List.take_zero, List.drop_succ_cons, Nat.le_refl]
      have nb : nob c = false := by simp only [nob, Bool.or_eq_false_iff, decide_eq_false_iff_not]; omega
      have hLg : ∀ k, k < L.length → (L.map eP)[k]? = some (eP ⟨c, c, c, c, c⟩) := fun k hk => by
        rw [List.getElem?_map, hL0, List.getElem?_replicate, if_pos (by omega)]; rfl
      have hLb : L.any badS = false := by
        rw [List.any_eq_false]
        intro y hy
        rw [hL0] at hy
        rw [List.eq_of_mem_replicate hy]
        simp [badS, row5, nb]
      have h10 : TT 5000 12 10 [.one (rP L)] = _ := e10 5000 8 L (by omega) (by omega) (by omega)
      rw [byA, List.drop_zero, hLb, if_neg (by simp), if_neg (by omega)] at h10
      have hfl := flat_len L
      have hm5 : IntKind.i64.wrap ((i : Int) - (i : Int).tmod 5) = ((flat L).length : Int) := by
        rw [Int.tmod_eq_emod_of_nonneg (by omega), w64 (by omega), hfl, hLl]; omega
      refine loopK (K := fun o => fin _ (aft _ _ _ o)) (fun k => ⟨[(1, .one (.int .u8 c)), (5, .one (rU bb)), (7, .one (.sl 2240 0 L.length)), (10, iV 2), (11, iV k)], [(2240, .rows 27 5 (L.map eP))]⟩) (fun _ => some (bV true, [])) L.length ?hr2 L.length 0 5000 _ (by omega) (by omega) ?hk2
      case hk2 => simp only [gcK, lowB, Nat.reduceLeDiff, Nat.reduceBEq, List.contains_nil, List.contains_cons, Bool.or_false, Bool.false_or, Bool.false_eq_true, if_false, Bool.true_and, Bool.and_true, pickL, look_hit, look_miss, look_end, slMent, hpMent, S.ment, S.ment.smt, ments, V.ment, List.append_nil, List.nil_append, List.cons_append, List.all_nil, List.all_cons, Option.isSome_some, Bool.and_self, if_true, reduceIte, Nat.reduceEqDiff, not_false_eq_true, reduceCtorEq, Nat.reduceMul, Nat.reduceAdd]; rfl
      case hr2 =>
        intro k n2 hk ih
        (try dsimp only)
        by_cases hkl : k < L.length
        · have g1 : decide ((k : Int) < (L.length : Int)) = true := by simp; omega
          have hg := hLg k hkl
          have hbk : 0 ≤ (k : Int) ∧ (k : Int) < (L.length : Int) := by omega
          simp only [g1, hg, hbk.1, hbk.2, hcw, wi k (by omega), List.length_map, Int.toNat_natCast, Nat.zero_add, Bool.and_self, Bool.not_true, j6, b6, q6, qq, oo3, go_mkp, go_stp, ments, V.ment, List.isEmpty_nil, oo, pp, lives, V.live, purS, S.pur, V.pur, V.pur1, purs, pur1s, mentS, S.ment, S.ment.smt, ments, V.ment, List.append_nil, Hp.ok64, List.all_nil, List.all_cons, S.purT, S.purT.sp, S.self, V.self, selfs, S.self.sself, Hp.self, S.ren, S.ren.sren, V.ren, Hp.ren, true_or, or_true, false_or, or_false, Bool.and_true, Bool.true_and, Bool.and_false, Bool.false_and, Bool.and_self, hand, handSs, handS, handVs, handV, handBs, upTo, one1, List.contains_nil, List.isEmpty_nil, List.take_length, List.getElem?_cons_zero, List.getElem?_cons_succ, fillV, fillR, setAt, List.set_cons_zero, List.set_cons_succ, List.replicate, evE, asRow, callS, callT, callU, names, dedup, blkMents, Blk.mentB, idxOf, V.mapS, S.mapS, S.mapS.smapS, Blk.mapS, encs, encB, isBox, backN, hpBack, killsV, killsS, killsS.ks, killsB, rowsOf, without, keysOk, noTup, boxesOk, fresh, Option.isNone_none, Blk.ren, aloOk, aloV, aloB, frzL, freezes, Go.Proofs.YtbkemldecbcfhaaDoorR.freeze, drop1, S.frz, S.frz.sf, V.frz, Blk.frz, slMent, pickL, List.map_append, S.kill, S.kill.sk, V.kill, Blk.kill, eqvs, ones, Bool.not_true, Bool.not_false, decide_true, decide_false, List.length_append, Int.le_refl, Int.toNat_natCast, Int.toNat_one, Int.cast_ofNat_Int, List.all_nil, List.contains_cons, Nat.reduceBEq, Bool.false_or, Bool.or_false, Bool.true_or, Bool.or_true, look_hit, look_end, look_miss, List.map_cons, List.map_nil, List.cons_append, List.nil_append, Option.getD_some, Option.getD_none, X.ev, ev, bin, ibin, Option.map_some, Option.map_none, Option.bind_some, S.cells, rd, sub, Go.Proofs.YtbkemldecbcfhaaDoorR.shape, asI, bnd, evs, Rs.ev, R.ev, params, okKey, Nat.reduceAdd, Nat.reduceMul, Nat.reduceDiv, Nat.reduceEqDiff, Nat.reduceLeDiff, Nat.reduceLT, Int.reduceEq, Int.reduceNe, Int.reduceLT, Int.reduceLE, Int.reduceAdd, Int.reduceSub, Int.reduceMul, Int.reduceNeg, Int.reduceToNat, Int.reducePow, Nat.reducePow, Int.toNat_zero, not_false_eq_true, not_true_eq_false, reduceCtorEq, Nat.zero_add, Nat.add_zero, reduceIte, if_true, if_false, Bool.true_eq_false, Bool.false_eq_true, List.length_cons, List.length_nil, and_self, true_and, and_true, List.drop_zero, List.take_succ_cons, List.take_zero, List.drop_succ_cons, Nat.le_refl]
          exact ih hkl _ (by simp only [gcK, lowB, Nat.reduceLeDiff, Nat.reduceBEq, List.contains_nil, List.contains_cons, Bool.or_false, Bool.false_or, Bool.false_eq_true, if_false, Bool.true_and, Bool.and_true, pickL, look_hit, look_miss, look_end, slMent, hpMent, S.ment, S.ment.smt, ments, V.ment, List.append_nil, List.nil_append, List.cons_append, List.all_nil, List.all_cons, Option.isSome_some, Bool.and_self, if_true, reduceIte, Nat.reduceEqDiff, not_false_eq_true, reduceCtorEq, Nat.reduceMul, Nat.reduceAdd])
        · obtain rfl : k = L.length := by omega
          clear ih
          have g1 : decide ((L.length : Int) < (L.length : Int)) = false := by simp
          simp only [g1, h10, takeP, takeU, selfU, List.length_map, Int.toNat_natCast, Nat.zero_add, Nat.le_refl, j6, b6, q6, qq, oo3, go_mkp, go_stp, ments, V.ment, List.isEmpty_nil, oo, pp, lives, V.live, purS, S.pur, V.pur, V.pur1, purs, pur1s, mentS, S.ment, S.ment.smt, ments, V.ment, List.append_nil, Hp.ok64, List.all_nil, List.all_cons, S.purT, S.purT.sp, S.self, V.self, selfs, S.self.sself, Hp.self, S.ren, S.ren.sren, V.ren, Hp.ren, true_or, or_true, false_or, or_false, Bool.and_true, Bool.true_and, Bool.and_false, Bool.false_and, Bool.and_self, hand, handSs, handS, handVs, handV, handBs, upTo, one1, List.contains_nil, List.isEmpty_nil, List.take_length, List.getElem?_cons_zero, List.getElem?_cons_succ, fillV, fillR, setAt, List.set_cons_zero, List.set_cons_succ, List.replicate, evE, asRow, callS, callT, callU, names, dedup, blkMents, Blk.mentB, idxOf, V.mapS, S.mapS, S.mapS.smapS, Blk.mapS, encs, encB, isBox, backN, hpBack, killsV, killsS, killsS.ks, killsB, rowsOf, without, keysOk, noTup, boxesOk, fresh, Option.isNone_none, Blk.ren, aloOk, aloV, aloB, frzL, freezes, Go.Proofs.YtbkemldecbcfhaaDoorR.freeze, drop1, S.frz, S.frz.sf, V.frz, Blk.frz, slMent, pickL, List.map_append, S.kill, S.kill.sk, V.kill, Blk.kill, eqvs, ones, Bool.not_true, Bool.not_false, decide_true, decide_false, List.length_append, Int.le_refl, Int.toNat_natCast, Int.toNat_one, Int.cast_ofNat_Int, List.all_nil, List.contains_cons, Nat.reduceBEq, Bool.false_or, Bool.or_false, Bool.true_or, Bool.or_true, look_hit, look_end, look_miss, List.map_cons, List.map_nil, List.cons_append, List.nil_append, Option.getD_some, Option.getD_none, X.ev, ev, bin, ibin, Option.map_some, Option.map_none, Option.bind_some, S.cells, rd, sub, Go.Proofs.YtbkemldecbcfhaaDoorR.shape, asI, bnd, evs, Rs.ev, R.ev, params, okKey, Nat.reduceAdd, Nat.reduceMul, Nat.reduceDiv, Nat.reduceEqDiff, Nat.reduceLeDiff, Nat.reduceLT, Int.reduceEq, Int.reduceNe, Int.reduceLT, Int.reduceLE, Int.reduceAdd, Int.reduceSub, Int.reduceMul, Int.reduceNeg, Int.reduceToNat, Int.reducePow, Nat.reducePow, Int.toNat_zero, not_false_eq_true, not_true_eq_false, reduceCtorEq, Nat.zero_add, Nat.add_zero, reduceIte, if_true, if_false, Bool.true_eq_false, Bool.false_eq_true, List.length_cons, List.length_nil, and_self, true_and, and_true, List.drop_zero, List.take_succ_cons, List.take_zero, List.drop_succ_cons, Nat.le_refl]
          refine loopK (K := fun o => fin _ (aft _ _ _ o)) (fun j => ⟨[(5, .one (rU bb)), (7, .one (.sl 2240 0 (L.length + j))), (10, iV 2), (12, .one (rU (flat L))), (13, iV 0)], [(2240, .rows 27 5 ((L ++ List.replicate j (⟨0, 0, 0, 0, 0⟩ : Sp)).map eP))]⟩) (fun _ => some (bV true, [])) (801 - L.length) ?hr3 (801 - L.length) 0 5000 _ (by omega) (by omega) ?hk3
          case hk3 => simp only [List.replicate_zero, List.append_nil, Nat.add_zero, gcK, lowB, Nat.reduceLeDiff, Nat.reduceBEq, List.contains_nil, List.contains_cons, Bool.or_false, Bool.false_or, Bool.false_eq_true, if_false, Bool.true_and, Bool.and_true, pickL, look_hit, look_miss, look_end, slMent, hpMent, S.ment, S.ment.smt, ments, V.ment, List.append_nil, List.nil_append, List.cons_append, List.all_nil, List.all_cons, Option.isSome_some, Bool.and_self, if_true, reduceIte, Nat.reduceEqDiff, not_false_eq_true, reduceCtorEq, Nat.reduceMul, Nat.reduceAdd]
          case hr3 =>
            intro j n3 hj ih
            (try dsimp only)
            have hGl : (L ++ List.replicate j (⟨0, 0, 0, 0, 0⟩ : Sp)).length = L.length + j := by simp
            have hC : (L ++ List.replicate (j + 1) (⟨0, 0, 0, 0, 0⟩ : Sp)).map eP = (L ++ List.replicate j (⟨0, 0, 0, 0, 0⟩ : Sp)).map eP ++ [eP (⟨0, 0, 0, 0, 0⟩ : Sp)] := by
              rw [List.replicate_succ', ← List.append_assoc, List.map_append]; rfl
            have hGb : (L ++ List.replicate j (⟨0, 0, 0, 0, 0⟩ : Sp)).any badS = false := by
              rw [List.any_append, hLb, Bool.false_or, List.any_eq_false]
              intro y hy
              rw [List.eq_of_mem_replicate hy]
              decide
            generalize hG : L ++ List.replicate j (⟨0, 0, 0, 0, 0⟩ : Sp) = G at *
            have htk : List.take (L.length + j) (G.map eP) = G.map eP := List.take_of_length_le (by rw [List.length_map]; omega)
            by_cases hjl : j < 801 - L.length
            · have g1 : decide (((L.length + j : Nat) : Int) ≤ 800) = true := by simp; omega
              have hb2 : (L.length + j + 1) * 40 ≤ 140737488355328 := by omega
              simp only [g1, htk, hGl, hb2, all5, List.length_map, Int.toNat_natCast, Nat.zero_add, j6, b6, q6, qq, oo3, go_mkp, go_stp, ments, V.ment, List.isEmpty_nil, oo, pp, lives, V.live, purS, S.pur, V.pur, V.pur1, purs, pur1s, mentS, S.ment, S.ment.smt, ments, V.ment, List.append_nil, Hp.ok64, List.all_nil, List.all_cons, S.purT, S.purT.sp, S.self, V.self, selfs, S.self.sself, Hp.self, S.ren, S.ren.sren, V.ren, Hp.ren, true_or, or_true, false_or, or_false, Bool.and_true, Bool.true_and, Bool.and_false, Bool.false_and, Bool.and_self, hand, handSs, handS, handVs, handV, handBs, upTo, one1, List.contains_nil, List.isEmpty_nil, List.take_length, List.getElem?_cons_zero, List.getElem?_cons_succ, fillV, fillR, setAt, List.set_cons_zero, List.set_cons_succ, List.replicate, evE, asRow, callS, callT, callU, names, dedup, blkMents, Blk.mentB, idxOf, V.mapS, S.mapS, S.mapS.smapS, Blk.mapS, encs, encB, isBox, backN, hpBack, killsV, killsS, killsS.ks, killsB, rowsOf, without, keysOk, noTup, boxesOk, fresh, Option.isNone_none, Blk.ren, aloOk, aloV, aloB, frzL, freezes, Go.Proofs.YtbkemldecbcfhaaDoorR.freeze, drop1, S.frz, S.frz.sf, V.frz, Blk.frz, slMent, pickL, List.map_append, S.kill, S.kill.sk, V.kill, Blk.kill, eqvs, ones, Bool.not_true, Bool.not_false, decide_true, decide_false, List.length_append, Int.le_refl, Int.toNat_natCast, Int.toNat_one, Int.cast_ofNat_Int, List.all_nil, List.contains_cons, Nat.reduceBEq, Bool.false_or, Bool.or_false, Bool.true_or, Bool.or_true, look_hit, look_end, look_miss, List.map_cons, List.map_nil, List.cons_append, List.nil_append, Option.getD_some, Option.getD_none, X.ev, ev, bin, ibin, Option.map_some, Option.map_none, Option.bind_some, S.cells, rd, sub, Go.Proofs.YtbkemldecbcfhaaDoorR.shape, asI, bnd, evs, Rs.ev, R.ev, params, okKey, Nat.reduceAdd, Nat.reduceMul, Nat.reduceDiv, Nat.reduceEqDiff, Nat.reduceLeDiff, Nat.reduceLT, Int.reduceEq, Int.reduceNe, Int.reduceLT, Int.reduceLE, Int.reduceAdd, Int.reduceSub, Int.reduceMul, Int.reduceNeg, Int.reduceToNat, Int.reducePow, Nat.reducePow, Int.toNat_zero, not_false_eq_true, not_true_eq_false, reduceCtorEq, Nat.zero_add, Nat.add_zero, reduceIte, if_true, if_false, Bool.true_eq_false, Bool.false_eq_true, List.length_cons, List.length_nil, and_self, true_and, and_true, List.drop_zero, List.take_succ_cons, List.take_zero, List.drop_succ_cons, Nat.le_refl]
              exact ih hjl _ (by simp only [hC, ← Nat.add_assoc, gcK, lowB, Nat.reduceLeDiff, Nat.reduceBEq, List.contains_nil, List.contains_cons, Bool.or_false, Bool.false_or, Bool.false_eq_true, if_false, Bool.true_and, Bool.and_true, pickL, look_hit, look_miss, look_end, slMent, hpMent, S.ment, S.ment.smt, ments, V.ment, List.append_nil, List.nil_append, List.cons_append, List.all_nil, List.all_cons, Option.isSome_some, Bool.and_self, if_true, reduceIte, Nat.reduceEqDiff, not_false_eq_true, reduceCtorEq, Nat.reduceMul, Nat.reduceAdd])
            · obtain rfl : j = 801 - L.length := by omega
              clear ih
              have g1 : decide (((L.length + (801 - L.length) : Nat) : Int) ≤ 800) = false := by simp; omega
              have h10g : TT 5000 12 10 [.one (rP G)] = _ := e10 5000 8 G (by omega) (by omega) (by omega)
              rw [byA, List.drop_zero, hGb, if_neg (by simp), if_pos (by omega)] at h10g
              have hee : decide (((flat L).length : Int) = ((flat L).length : Int)) = true := by simp
              simp only [g1, htk, hGl, h10g, hm5, hee, hbl, hw0, List.length_map, Int.toNat_natCast, Nat.zero_add, Nat.le_refl, j6, b6, q6, qq, oo3, go_mkp, go_stp, ments, V.ment, List.isEmpty_nil, oo, pp, lives, V.live, purS, S.pur, V.pur, V.pur1, purs, pur1s, mentS, S.ment, S.ment.smt, ments, V.ment, List.append_nil, Hp.ok64, List.all_nil, List.all_cons, S.purT, S.purT.sp, S.self, V.self, selfs, S.self.sself, Hp.self, S.ren, S.ren.sren, V.ren, Hp.ren, true_or, or_true, false_or, or_false, Bool.and_true, Bool.true_and, Bool.and_false, Bool.false_and, Bool.and_self, hand, handSs, handS, handVs, handV, handBs, upTo, one1, List.contains_nil, List.isEmpty_nil, List.take_length, List.getElem?_cons_zero, List.getElem?_cons_succ, fillV, fillR, setAt, List.set_cons_zero, List.set_cons_succ, List.replicate, evE, asRow, callS, callT, callU, names, dedup, blkMents, Blk.mentB, idxOf, V.mapS, S.mapS, S.mapS.smapS, Blk.mapS, encs, encB, isBox, backN, hpBack, killsV, killsS, killsS.ks, killsB, rowsOf, without, keysOk, noTup, boxesOk, fresh, Option.isNone_none, Blk.ren, aloOk, aloV, aloB, frzL, freezes, Go.Proofs.YtbkemldecbcfhaaDoorR.freeze, drop1, S.frz, S.frz.sf, V.frz, Blk.frz, slMent, pickL, List.map_append, S.kill, S.kill.sk, V.kill, Blk.kill, eqvs, ones, Bool.not_true, Bool.not_false, decide_true, decide_false, List.length_append, Int.le_refl, Int.toNat_natCast, Int.toNat_one, Int.cast_ofNat_Int, List.all_nil, List.contains_cons, Nat.reduceBEq, Bool.false_or, Bool.or_false, Bool.true_or, Bool.or_true, look_hit, look_end, look_miss, List.map_cons, List.map_nil, List.cons_append, List.nil_append, Option.getD_some, Option.getD_none, X.ev, ev, bin, ibin, Option.map_some, Option.map_none, Option.bind_some, S.cells, rd, sub, Go.Proofs.YtbkemldecbcfhaaDoorR.shape, asI, bnd, evs, Rs.ev, R.ev, params, okKey, Nat.reduceAdd, Nat.reduceMul, Nat.reduceDiv, Nat.reduceEqDiff, Nat.reduceLeDiff, Nat.reduceLT, Int.reduceEq, Int.reduceNe, Int.reduceLT, Int.reduceLE, Int.reduceAdd, Int.reduceSub, Int.reduceMul, Int.reduceNeg, Int.reduceToNat, Int.reducePow, Nat.reducePow, Int.toNat_zero, not_false_eq_true, not_true_eq_false, reduceCtorEq, Nat.zero_add, Nat.add_zero, reduceIte, if_true, if_false, Bool.true_eq_false, Bool.false_eq_true, List.length_cons, List.length_nil, and_self, true_and, and_true, List.drop_zero, List.take_succ_cons, List.take_zero, List.drop_succ_cons, Nat.le_refl]
theorem e6r {A : Prop} (n c : Int) (w0_ : A) (w1_ : (Lit.int .u8 c).wf = true) : TT 5000 13 6 [iV n, .one (.int .u8 c)] = some (bV true, []) := e6 n c (u8w w1_)
end Go.Proofs.YtbkemldecbcfhaaDoor.EC
