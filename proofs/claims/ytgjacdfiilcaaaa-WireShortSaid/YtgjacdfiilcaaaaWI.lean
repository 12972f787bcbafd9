import Derived.Test.YtgjacdfiilcaaaaWH
import Derived.Test.YtgjacdfiilcaaaaMK
set_option linter.unusedSimpArgs false
set_option linter.unusedVariables false
namespace Go.Proofs.Ytgjacdfiilcaaaa.CA
open Go Go.Proofs.YtgjacdfiilcaaaaR Go.Proofs.Ytgjacdfiilcaaaa.IW Go.Proofs.Ytgjacdfiilcaaaa.CZ Go.Proofs.Ytgjacdfiilcaaaa.WZ
open Go.Proofs.Ytgjacdfiilcaaaa.MA (Mg eM aM msgOK)
set_option maxRecDepth 100000
set_option maxHeartbeats 4000000
theorem e14 (N d : Nat) (b : List Int) (hl : b.length < 1000000) : TT N (d + 1) 14 [.one (rU b)] = some (.one (.sl 0 0 b.length), [(0, .rows 5 1 (b.map eU))]) := by
  rw [t14, F_ev rfl]
  have h1 : (0 + b.length) * 1 ≤ 140737488355328 := by omega
  have h2 : b.length * 1 ≤ 140737488355328 := by omega
  simp only [allU, takeU, h1, h2, List.length_map, Nat.zero_add, Nat.le_refl, j14, b14, q14, qq, oo, pp, lives, V.live, purS, S.pur, V.pur, V.pur1, purs, pur1s, mentS, S.ment, S.ment.smt, ments, V.ment, List.append_nil, Hp.ok64, List.all_nil, List.all_cons, S.purT, S.purT.sp, S.self, V.self, selfs, S.self.sself, Hp.self, S.ren, S.ren.sren, V.ren, Hp.ren, true_or, or_true, false_or, or_false, Bool.and_true, Bool.true_and, Bool.and_false, Bool.false_and, Bool.and_self, hand, handSs, handS, handVs, handV, handBs, upTo, one1, List.contains_nil, List.isEmpty_nil, List.take_length, List.getElem?_cons_zero, List.getElem?_cons_succ, fillV, fillR, setAt, List.set_cons_zero, List.set_cons_succ, List.replicate, evE, asRow, callS, callT, callU, names, dedup, blkMents, Blk.mentB, idxOf, V.mapS, S.mapS, S.mapS.smapS, Blk.mapS, encs, encB, isBox, backN, hpBack, killsV, killsS, killsS.ks, killsB, rowsOf, without, keysOk, noTup, boxesOk, fresh, Option.isNone_none, Blk.ren, aloOk, aloV, aloB, frzL, freezes, Go.Proofs.YtgjacdfiilcaaaaR.freeze, drop1, S.frz, S.frz.sf, V.frz, Blk.frz, slMent, pickL, List.map_append, S.kill, S.kill.sk, V.kill, Blk.kill, eqvs, ones, Bool.not_true, Bool.not_false, decide_true, decide_false, List.length_append, Int.le_refl, Int.toNat_natCast, Int.toNat_one, Int.cast_ofNat_Int, List.all_nil, List.contains_cons, Nat.reduceBEq, Bool.false_or, Bool.or_false, Bool.true_or, Bool.or_true, look_hit, look_end, look_miss, List.map_cons, List.map_nil, List.cons_append, List.nil_append, Option.getD_some, Option.getD_none, X.ev, ev, bin, ibin, Option.map_some, Option.map_none, Option.bind_some, S.cells, rd, sub, Go.Proofs.YtgjacdfiilcaaaaR.shape, asI, bnd, evs, Rs.ev, R.ev, params, okKey, Nat.reduceAdd, Nat.reduceMul, Nat.reduceDiv, Nat.reduceEqDiff, Nat.reduceLeDiff, Nat.reduceLT, Int.reduceEq, Int.reduceNe, Int.reduceLT, Int.reduceLE, Int.reduceAdd, Int.reduceSub, Int.reduceMul, Int.reduceNeg, Int.reduceToNat, Int.reducePow, Nat.reducePow, Int.toNat_zero, not_false_eq_true, not_true_eq_false, reduceCtorEq, Nat.zero_add, Nat.add_zero, reduceIte, if_true, if_false, Bool.true_eq_false, Bool.false_eq_true, List.length_cons, List.length_nil, and_self, true_and, and_true, List.drop_zero, List.take_succ_cons, List.take_zero, List.drop_succ_cons, Nat.le_refl]
  try simp
theorem tk4 (b : List Int) : List.take (b.length + 4) ((sel b).map eU) = (sel b).map eU := List.take_of_length_le (by rw [List.length_map, sel_len]; exact Nat.le_refl _)
theorem e8a (N d : Nat) (b : List Int) (hb : Bs b) (hN : b.length < N) (hN8 : 8 < N) (hl : b.length < 1000000) : ans (TT N (d + 2) 8 [.one (rU b)]) = some (.one (rU (sel b))) := by
  rw [e8 N d b hb hN hN8 hl]
  simp only [tk4, sel_len, List.length_map, Nat.le_refl, qq, oo, pp, lives, V.live, purS, S.pur, V.pur, V.pur1, purs, pur1s, mentS, S.ment, S.ment.smt, ments, V.ment, List.append_nil, Hp.ok64, List.all_nil, List.all_cons, S.purT, S.purT.sp, S.self, V.self, selfs, S.self.sself, Hp.self, S.ren, S.ren.sren, V.ren, Hp.ren, true_or, or_true, false_or, or_false, Bool.and_true, Bool.true_and, Bool.and_false, Bool.false_and, Bool.and_self, hand, handSs, handS, handVs, handV, handBs, upTo, one1, List.contains_nil, List.isEmpty_nil, List.take_length, List.getElem?_cons_zero, List.getElem?_cons_succ, fillV, fillR, setAt, List.set_cons_zero, List.set_cons_succ, List.replicate, evE, asRow, callS, callT, callU, names, dedup, blkMents, Blk.mentB, idxOf, V.mapS, S.mapS, S.mapS.smapS, Blk.mapS, encs, encB, isBox, backN, hpBack, killsV, killsS, killsS.ks, killsB, rowsOf, without, keysOk, noTup, boxesOk, fresh, Option.isNone_none, Blk.ren, aloOk, aloV, aloB, frzL, freezes, Go.Proofs.YtgjacdfiilcaaaaR.freeze, drop1, S.frz, S.frz.sf, V.frz, Blk.frz, slMent, pickL, List.map_append, S.kill, S.kill.sk, V.kill, Blk.kill, eqvs, ones, Bool.not_true, Bool.not_false, decide_true, decide_false, List.length_append, Int.le_refl, Int.toNat_natCast, Int.toNat_one, Int.cast_ofNat_Int, List.all_nil, List.contains_cons, Nat.reduceBEq, Bool.false_or, Bool.or_false, Bool.true_or, Bool.or_true, look_hit, look_end, look_miss, List.map_cons, List.map_nil, List.cons_append, List.nil_append, Option.getD_some, Option.getD_none, X.ev, ev, bin, ibin, Option.map_some, Option.map_none, Option.bind_some, S.cells, rd, sub, Go.Proofs.YtgjacdfiilcaaaaR.shape, asI, bnd, evs, Rs.ev, R.ev, params, okKey, Nat.reduceAdd, Nat.reduceMul, Nat.reduceDiv, Nat.reduceEqDiff, Nat.reduceLeDiff, Nat.reduceLT, Int.reduceEq, Int.reduceNe, Int.reduceLT, Int.reduceLE, Int.reduceAdd, Int.reduceSub, Int.reduceMul, Int.reduceNeg, Int.reduceToNat, Int.reducePow, Nat.reducePow, Int.toNat_zero, not_false_eq_true, not_true_eq_false, reduceCtorEq, Nat.zero_add, Nat.add_zero, reduceIte, if_true, if_false, Bool.true_eq_false, Bool.false_eq_true, List.length_cons, List.length_nil, and_self, true_and, and_true, List.drop_zero, List.take_succ_cons, List.take_zero, List.drop_succ_cons, Nat.le_refl]
theorem enc_k (m : Mg) : ∃ B, encM m = digs 1 m.k ++ B := ⟨_, by simp only [encM, enc, szs, numsM, encN, List.append_assoc]; rfl⟩
theorem enc_s (m : Mg) : ∃ A B, A.length = 20 ∧ encM m = A ++ (digs 4 m.s ++ B) :=
  ⟨digs 1 m.k ++ (digs 1 m.f ++ (digs 1 m.t ++ (digs 1 m.tp ++ (digs 4 m.fi ++ (digs 4 m.ti ++ digs 8 m.e))))), _, by simp [digs_len], by simp only [encM, enc, szs, numsM, encN, List.append_assoc]; rfl⟩
theorem get_k {m : Mg} (h : msgOK m = true) : getA (encM m) 0 1 = [iV m.k, iV ((1 : Nat) : Int), iV 0] := by
  obtain ⟨B, hB⟩ := enc_k m
  have r := msg_rg h
  have := r.k
  have h1 : (encM m).take 1 = digs 1 m.k := by rw [hB, List.take_left' (digs_len 1 m.k)]
  have h2 : beV (digs 1 m.k) = m.k := beV_digs 1 m.k (by omega) (by simp; omega)
  rw [getA, h1, h2, if_neg (by rw [encM_len]; omega), if_neg (by omega)]
theorem get_s {m : Mg} (h : msgOK m = true) : getA ((encM m).drop 20) 20 4 = [iV m.s, iV ((24 : Nat) : Int), iV 0] := by
  obtain ⟨A, B, hA, hB⟩ := enc_s m
  have r := msg_rg h
  have := r.s
  have h1 : ((encM m).drop 20).take 4 = digs 4 m.s := by rw [hB, List.drop_left' hA, List.take_left' (digs_len 4 m.s)]
  have p4 : (256 : Int) ^ 4 = 4294967296 := by decide
  have h2 : beV (digs 4 m.s) = m.s := beV_digs 4 m.s (by omega) (by rw [p4]; omega)
  rw [getA, h1, h2, if_neg (by rw [List.length_drop, encM_len]; omega), if_neg (by omega)]
theorem dec_cut {m : Mg} (h : msgOK m = true) {p : Nat} (hp : p < (encM m).length) : decM (sel ((encM m).take p)) = (zM, 3) := by
  have r := msg_rg h
  have := r.pa.1; have := r.td.1
  have hl := encM_len m
  rw [dec_sel _ (by rw [List.length_take]; omega), show rdM ((encM m).take p) = none from rd_cut (msg_fits h) (encM_Bs m) hp]
theorem dec_more {m : Mg} (h : msgOK m = true) (c : Int) : decM (sel (encM m ++ [c])) = (zM, 3) := by
  have r := msg_rg h
  have := r.pa.1; have := r.td.1
  have hl := encM_len m
  rw [dec_sel _ (by rw [List.length_append]; simp; omega), show rdM (encM m ++ [c]) = none from (rd_enc (msg_fits h) [c]).trans (if_neg (by simp))]
theorem e7 (p0 p1 p2 cut c : Int) : TT 5000 14 7 [iV p0, iV p1, iV p2, iV cut, iV c] = some (bV true, []) := by
  obtain ⟨k, n, v, hk, hn, hv, h22⟩ := MA.e22 5000 12 p0 p1 p2
  have hm := MA.good_ok k n v hk hn hv
  rw [t7, F_ev rfl]
  generalize MA.good k n v = m at *
  have r := msg_rg hm
  have rp := r.pa.1
  have rt := r.td.1
  have hxl := encM_len m
  have h15 := e15a 2000 3 m (by omega) (by omega) (by omega)
  rw [if_pos hm, if_pos hm] at h15
  have h9 := e9 5000 11 (sel (encM m)) (sel_Bs (encM_Bs m)) (by rw [sel_len]; omega) (by omega) (by rw [sel_len]; omega)
  rw [opn_sel] at h9
  obtain ⟨p, hp, hp'⟩ := um cut (encM m).length (by omega)
  have hu : IntKind.u64.wrap ((encM m).length : Int) = (encM m).length := by simp only [IntKind.wrap, IntKind.bits, IntKind.signed]; simp; omega
  have hne : ¬ ((encM m).length : Int) = 0 := by omega
  have hcut := cutU (encM m) p
  have hple : (p : Int) ≤ ((encM m).length : Int) := by omega
  have hB1 := Bs_take (encM_Bs m) p
  have ht1 : ((encM m).take p).length = p := by rw [List.length_take]; omega
  have h8a := e8a 5000 11 ((encM m).take p) hB1 (by omega) (by omega) (by omega)
  have h16a := e16a 2000 3 (sel ((encM m).take p)) (sel_Bs hB1) (by rw [sel_len]; omega) (by rw [sel_len]; omega)
  rw [dec_cut hm (by omega)] at h16a
  have h16a' : ans (TT 5000 13 16 [.one (rU (sel ((encM m).take p)))]) = some (.tup [.agg zC, iV 3]) := h16a
  have hcc : 0 ≤ c % 256 ∧ c % 256 ≤ 255 := by omega
  have hB2 : Bs (encM m ++ [c % 256]) := Bs_app (encM_Bs m) fun x hx => by simp at hx; omega
  have h14 := e14 5000 12 (encM m) (by omega)
  have h8b := e8 5000 11 (encM m ++ [c % 256]) hB2 (by simp; omega) (by omega) (by simp; omega)
  have h16b := e16a 2000 3 (sel (encM m ++ [c % 256])) (sel_Bs hB2) (by rw [sel_len]; simp; omega) (by rw [sel_len]; simp; omega)
  rw [dec_more hm] at h16b
  have h16b' : ans (TT 5000 13 16 [.one (rU (sel (encM m ++ [c % 256])))]) = some (.tup [.agg zC, iV 3]) := h16b
  have hap : (encM m).map eU ++ [[.int .u8 (c % 256)]] = (encM m ++ [c % 256]).map eU := by rw [List.map_append]; rfl
  have h23a := e23 5000 11 (encM m) 0 1 (encM_Bs m) (.inl rfl) (by omega) (by omega) (by omega)
  rw [List.drop_zero, get_k hm] at h23a
  have h23b := e23 5000 11 (encM m) 20 4 (encM_Bs m) (.inr (.inl rfl)) (by omega) (by omega) (by omega)
  rw [get_s hm] at h23b
  simp only [Int.cast_ofNat_Int, cast0, cast1] at h23a h23b
  have hw := w20
  have hlt : decide (((encM m).length : Int) < 44) = false := by simp; omega
  generalize hx : encM m = x at *
  have hby : (x.length + 1) * 1 ≤ 140737488355328 := by omega
  have hxm : (x ++ [c % 256]).length = x.length + 1 := by simp
  generalize hy : x ++ [c % 256] = y at *
  have htk : (y.map eU).take (x.length + 1) = y.map eU := List.take_of_length_le (by simp; omega)
  rw [hxm] at h8b
  have tk5 : List.take (x.length + 1 + 4) ((sel y).map eU) = (sel y).map eU := by rw [← hxm]; exact tk4 y
  simp only [h22, h15, h9, hlt, hp, hu, hne, hcut, hple, h8a, h16a', h14, w8, hby, takeU, allU, selfU, hw, h23a, h23b, sel_len, hap, h8b, h16b', tk4, tk5, htk, hxm, List.length_map, List.length_append, Nat.le_refl, j7, b7, q7, qq, oo, pp, lives, V.live, purS, S.pur, V.pur, V.pur1, purs, pur1s, mentS, S.ment, S.ment.smt, ments, V.ment, List.append_nil, Hp.ok64, List.all_nil, List.all_cons, S.purT, S.purT.sp, S.self, V.self, selfs, S.self.sself, Hp.self, S.ren, S.ren.sren, V.ren, Hp.ren, true_or, or_true, false_or, or_false, Bool.and_true, Bool.true_and, Bool.and_false, Bool.false_and, Bool.and_self, hand, handSs, handS, handVs, handV, handBs, upTo, one1, List.contains_nil, List.isEmpty_nil, List.take_length, List.getElem?_cons_zero, List.getElem?_cons_succ, fillV, fillR, setAt, List.set_cons_zero, List.set_cons_succ, List.replicate, evE, asRow, callS, callT, callU, names, dedup, blkMents, Blk.mentB, idxOf, V.mapS, S.mapS, S.mapS.smapS, Blk.mapS, encs, encB, isBox, backN, hpBack, killsV, killsS, killsS.ks, killsB, rowsOf, without, keysOk, noTup, boxesOk, fresh, Option.isNone_none, Blk.ren, aloOk, aloV, aloB, frzL, freezes, Go.Proofs.YtgjacdfiilcaaaaR.freeze, drop1, S.frz, S.frz.sf, V.frz, Blk.frz, slMent, pickL, List.map_append, S.kill, S.kill.sk, V.kill, Blk.kill, eqvs, ones, Bool.not_true, Bool.not_false, decide_true, decide_false, List.length_append, Int.le_refl, Int.toNat_natCast, Int.toNat_one, Int.cast_ofNat_Int, List.all_nil, List.contains_cons, Nat.reduceBEq, Bool.false_or, Bool.or_false, Bool.true_or, Bool.or_true, look_hit, look_end, look_miss, List.map_cons, List.map_nil, List.cons_append, List.nil_append, Option.getD_some, Option.getD_none, X.ev, ev, bin, ibin, Option.map_some, Option.map_none, Option.bind_some, S.cells, rd, sub, Go.Proofs.YtgjacdfiilcaaaaR.shape, asI, bnd, evs, Rs.ev, R.ev, params, okKey, Nat.reduceAdd, Nat.reduceMul, Nat.reduceDiv, Nat.reduceEqDiff, Nat.reduceLeDiff, Nat.reduceLT, Int.reduceEq, Int.reduceNe, Int.reduceLT, Int.reduceLE, Int.reduceAdd, Int.reduceSub, Int.reduceMul, Int.reduceNeg, Int.reduceToNat, Int.reducePow, Nat.reducePow, Int.toNat_zero, not_false_eq_true, not_true_eq_false, reduceCtorEq, Nat.zero_add, Nat.add_zero, reduceIte, if_true, if_false, Bool.true_eq_false, Bool.false_eq_true, List.length_cons, List.length_nil, and_self, true_and, and_true, List.drop_zero, List.take_succ_cons, List.take_zero, List.drop_succ_cons, Nat.le_refl]
end Go.Proofs.Ytgjacdfiilcaaaa.CA
