import Derived.Test.YtbnommmnflmaaaaKJ
set_option linter.unusedSimpArgs false
set_option linter.unusedVariables false
namespace Go.Proofs.Ytbnommmnflmaaaa.KA
open Go Go.Proofs.YtbnommmnflmaaaaR Go.Proofs.Ytbnommmnflmaaaa.IK
set_option maxRecDepth 100000
set_option maxHeartbeats 4000000
abbrev nT (l : List Int) : V := .row (l.map fun n : Int => [V.int .i64 n])
def insS (t i : Int) : List Int → List Int
  | [] => [i]
  | y :: r => if nr t i y then i :: y :: r else y :: insS t i r
def farL (t s : Int) : List Int := (([0, 1, 2, 3, 4, 5, 6, 7] : List Int).filter (nr t s)).foldl (fun l i => insS t i l) []
theorem e9 {t s : Int} (ht : okT t = true) (hs : okN s = true) : ans (TT 1000 12 9 [iV t, iV s]) = some (.one (nT (farL t s))) := by
  revert hs
  refine four (P := fun t => okN s = true → ans (TT 1000 12 9 [iV t, iV s]) = some (.one (nT (farL t s)))) (fun hs => ?_) (fun hs => ?_) (fun hs => ?_) (fun hs => ?_) ht
  · exact eight (P := fun s => ans (TT 1000 12 9 [iV 0, iV s]) = some (.one (nT (farL 0 s)))) (by kernel_rfl) (by kernel_rfl) (by kernel_rfl) (by kernel_rfl) (by kernel_rfl) (by kernel_rfl) (by kernel_rfl) (by kernel_rfl) hs
  · exact eight (P := fun s => ans (TT 1000 12 9 [iV 1, iV s]) = some (.one (nT (farL 1 s)))) (by kernel_rfl) (by kernel_rfl) (by kernel_rfl) (by kernel_rfl) (by kernel_rfl) (by kernel_rfl) (by kernel_rfl) (by kernel_rfl) hs
  · exact eight (P := fun s => ans (TT 1000 12 9 [iV 2, iV s]) = some (.one (nT (farL 2 s)))) (by kernel_rfl) (by kernel_rfl) (by kernel_rfl) (by kernel_rfl) (by kernel_rfl) (by kernel_rfl) (by kernel_rfl) (by kernel_rfl) hs
  · exact eight (P := fun s => ans (TT 1000 12 9 [iV 3, iV s]) = some (.one (nT (farL 3 s)))) (by kernel_rfl) (by kernel_rfl) (by kernel_rfl) (by kernel_rfl) (by kernel_rfl) (by kernel_rfl) (by kernel_rfl) (by kernel_rfl) hs
def srt (t : Int) : List Int → Bool
  | [] => true
  | x :: r => r.all (nr t x) && srt t r
theorem farB : ((List.range 4).all fun (t : Nat) => (List.range 8).all fun (s : Nat) => (farL (t : Int) (s : Int)).all (nr (t : Int) (s : Int)) && srt (t : Int) (farL (t : Int) (s : Int)) && decide ((farL (t : Int) (s : Int)).length ≤ 7)) = true := by decide +kernel
theorem far_ok {t s : Int} (ht : okT t = true) (hs : okN s = true) : (∀ n ∈ farL t s, nr t s n = true) ∧ srt t (farL t s) = true ∧ (farL t s).length ≤ 7 := by
  have h1 := inB_t ht
  have h2 := inB_t hs
  obtain ⟨t', rfl⟩ := Int.eq_ofNat_of_zero_le h1.1
  obtain ⟨s', rfl⟩ := Int.eq_ofNat_of_zero_le h2.1
  have h4 := List.all_eq_true.1 (List.all_eq_true.1 farB t' (by simp; omega)) s' (by simp; omega)
  simp only [Bool.and_eq_true, decide_eq_true_eq] at h4
  exact ⟨fun n hn => List.all_eq_true.1 h4.1.1 n hn, h4.1.2, h4.2⟩
theorem srt_get {t : Int} : ∀ {l : List Int} {i j : Nat} (hj : j < l.length) (hij : i < j), srt t l = true → nr t (l[i]'(by omega)) l[j] = true
  | [], i, j, hj, _, _ => by simp at hj
  | x :: r, 0, 0, _, h, _ => by omega
  | x :: r, 0, j + 1, hj, _, h => by
    simp only [srt, Bool.and_eq_true] at h
    exact List.all_eq_true.1 h.1 _ (List.getElem_mem _)
  | x :: r, i + 1, 0, _, h, _ => by omega
  | x :: r, i + 1, j + 1, hj, hij, h => by
    simp only [srt, Bool.and_eq_true] at h
    exact srt_get (l := r) (i := i) (j := j) (by simpa using hj) (by omega) h.2
theorem kmod (z m : Int) (hm : 0 < m) (hm2 : m < 1000000) : 0 ≤ IntKind.i64.wrap ((IntKind.u64.wrap z).tmod m) ∧ IntKind.i64.wrap ((IntKind.u64.wrap z).tmod m) < m := by
  have h : 0 ≤ IntKind.u64.wrap z := by
    simp [IntKind.wrap, IntKind.signed, IntKind.bits]
    omega
  have h1 := Int.tmod_nonneg m h
  have h2 := Int.tmod_lt_of_pos (IntKind.u64.wrap z) hm
  rw [IntWalk.i64_in _ (by omega)]
  exact ⟨h1, h2⟩
theorem wu (n : Nat) (h : n < 1000000) : IntKind.u64.wrap (n : Int) = n := by
  simp [IntKind.wrap, IntKind.signed, IntKind.bits]
  omega
/-- One alone. -/
theorem kOK_one {t self limit : Int} {x : Kd} (ht : okT t = true) (hs : okN self = true) (hl : 1 ≤ limit ∧ limit ≤ 4) (hx : nr t self x.n = true) (hi : inc2 x = true) : kOK t self limit [x] = true := kOK_of ht hs hl (by simp; omega) (by simp [chn, hx, hi])
theorem askP_ok {t self limit : Int} {l : List Kd} {n inc : Int} (h1 : kOK t self limit l = true) (h2 : nr t self n = true) (h3 : inB inc 1 1073741824 = true) : askP t self limit l n inc = askT t limit l n inc := by unfold askP; rw [h1, h2, h3]; rfl
theorem e6 (t self n m : Int) : TT 1000 13 6 [iV t, iV self, iV n, iV m] = some (bV true, []) := by
  rw [t6, F_ev rfl]
  have hw0 := w0
  obtain ⟨a1, a2⟩ := kmod t 4 (by omega) (by omega)
  obtain ⟨b1, b2⟩ := kmod self 8 (by omega) (by omega)
  generalize hT : IntKind.i64.wrap ((IntKind.u64.wrap t).tmod 4) = T at a1 a2
  generalize hS : IntKind.i64.wrap ((IntKind.u64.wrap self).tmod 8) = A at b1 b2
  have ht : okT T = true := by simp [okT, inB]; omega
  have hs : okN A = true := by simp [okN, inB]; omega
  have h9 := e9 ht hs
  obtain ⟨f1, f2, f3⟩ := far_ok ht hs
  generalize farL T A = F at *
  cases hF2 : decide ((F.length : Int) < 2) with
  | true => simp only [hT, hS, h9, hF2, hw0, List.length_map, j6, b6, q6, qq, oo, pp, lives, V.live, purS, S.pur, V.pur, V.pur1, purs, pur1s, mentS, S.ment, S.ment.smt, ments, V.ment, List.append_nil, Hp.ok64, List.all_nil, List.all_cons, S.purT, S.purT.sp, S.self, V.self, selfs, S.self.sself, Hp.self, S.ren, S.ren.sren, V.ren, Hp.ren, true_or, or_true, false_or, or_false, Bool.and_true, Bool.true_and, Bool.and_false, Bool.false_and, Bool.and_self, hand, handSs, handS, handVs, handV, handBs, upTo, one1, List.contains_nil, List.isEmpty_nil, List.take_length, List.getElem?_cons_zero, List.getElem?_cons_succ, fillV, fillR, setAt, List.set_cons_zero, List.set_cons_succ, List.replicate, evE, asRow, callS, callT, callU, names, dedup, blkMents, Blk.mentB, idxOf, V.mapS, S.mapS, S.mapS.smapS, Blk.mapS, encs, encB, isBox, backN, hpBack, killsV, killsS, killsS.ks, killsB, rowsOf, without, keysOk, noTup, boxesOk, fresh, Option.isNone_none, Blk.ren, aloOk, aloV, aloB, frzL, freezes, Go.Proofs.YtbnommmnflmaaaaR.freeze, drop1, S.frz, S.frz.sf, V.frz, Blk.frz, slMent, pickL, List.map_append, S.kill, S.kill.sk, V.kill, Blk.kill, eqvs, ones, Bool.not_true, Bool.not_false, decide_true, decide_false, List.length_append, Int.le_refl, Int.toNat_natCast, Int.toNat_one, Int.cast_ofNat_Int, List.all_nil, List.contains_cons, Nat.reduceBEq, Bool.false_or, Bool.or_false, Bool.true_or, Bool.or_true, look_hit, look_end, look_miss, List.map_cons, List.map_nil, List.cons_append, List.nil_append, Option.getD_some, Option.getD_none, X.ev, ev, bin, ibin, Option.map_some, Option.map_none, Option.bind_some, S.cells, rd, sub, Go.Proofs.YtbnommmnflmaaaaR.shape, asI, bnd, evs, Rs.ev, R.ev, params, okKey, Nat.reduceAdd, Nat.reduceMul, Nat.reduceDiv, Nat.reduceEqDiff, Nat.reduceLeDiff, Nat.reduceLT, Int.reduceEq, Int.reduceNe, Int.reduceLT, Int.reduceLE, Int.reduceAdd, Int.reduceSub, Int.reduceMul, Int.reduceNeg, Int.reduceToNat, Int.reducePow, Nat.reducePow, Int.toNat_zero, not_false_eq_true, not_true_eq_false, reduceCtorEq, Nat.zero_add, Nat.add_zero, reduceIte, if_true, if_false, Bool.true_eq_false, Bool.false_eq_true, List.length_cons, List.length_nil, and_self, true_and, and_true, List.drop_zero, List.take_succ_cons, List.take_zero, List.drop_succ_cons, Nat.le_refl]
  | false =>
  have hF : 2 ≤ F.length := by simp at hF2; omega
  have hu := wu F.length (by omega)
  have hne : ¬ (F.length : Int) = 0 := by omega
  obtain ⟨c1, c2⟩ := kmod n F.length (by omega) (by omega)
  obtain ⟨d1, d2⟩ := kmod m F.length (by omega) (by omega)
  generalize hI : IntKind.i64.wrap ((IntKind.u64.wrap n).tmod (F.length : Int)) = i at c1 c2
  generalize hK : IntKind.i64.wrap ((IntKind.u64.wrap m).tmod (F.length : Int)) = k at d1 d2
  obtain ⟨i, rfl⟩ := Int.eq_ofNat_of_zero_le c1
  obtain ⟨k, rfl⟩ := Int.eq_ofNat_of_zero_le d1
  cases hik : decide ((i : Int) = (k : Int)) with
  | true => simp only [hT, hS, h9, hF2, hu, hne, hI, hK, hik, hw0, List.length_map, j6, b6, q6, qq, oo, pp, lives, V.live, purS, S.pur, V.pur, V.pur1, purs, pur1s, mentS, S.ment, S.ment.smt, ments, V.ment, List.append_nil, Hp.ok64, List.all_nil, List.all_cons, S.purT, S.purT.sp, S.self, V.self, selfs, S.self.sself, Hp.self, S.ren, S.ren.sren, V.ren, Hp.ren, true_or, or_true, false_or, or_false, Bool.and_true, Bool.true_and, Bool.and_false, Bool.false_and, Bool.and_self, hand, handSs, handS, handVs, handV, handBs, upTo, one1, List.contains_nil, List.isEmpty_nil, List.take_length, List.getElem?_cons_zero, List.getElem?_cons_succ, fillV, fillR, setAt, List.set_cons_zero, List.set_cons_succ, List.replicate, evE, asRow, callS, callT, callU, names, dedup, blkMents, Blk.mentB, idxOf, V.mapS, S.mapS, S.mapS.smapS, Blk.mapS, encs, encB, isBox, backN, hpBack, killsV, killsS, killsS.ks, killsB, rowsOf, without, keysOk, noTup, boxesOk, fresh, Option.isNone_none, Blk.ren, aloOk, aloV, aloB, frzL, freezes, Go.Proofs.YtbnommmnflmaaaaR.freeze, drop1, S.frz, S.frz.sf, V.frz, Blk.frz, slMent, pickL, List.map_append, S.kill, S.kill.sk, V.kill, Blk.kill, eqvs, ones, Bool.not_true, Bool.not_false, decide_true, decide_false, List.length_append, Int.le_refl, Int.toNat_natCast, Int.toNat_one, Int.cast_ofNat_Int, List.all_nil, List.contains_cons, Nat.reduceBEq, Bool.false_or, Bool.or_false, Bool.true_or, Bool.or_true, look_hit, look_end, look_miss, List.map_cons, List.map_nil, List.cons_append, List.nil_append, Option.getD_some, Option.getD_none, X.ev, ev, bin, ibin, Option.map_some, Option.map_none, Option.bind_some, S.cells, rd, sub, Go.Proofs.YtbnommmnflmaaaaR.shape, asI, bnd, evs, Rs.ev, R.ev, params, okKey, Nat.reduceAdd, Nat.reduceMul, Nat.reduceDiv, Nat.reduceEqDiff, Nat.reduceLeDiff, Nat.reduceLT, Int.reduceEq, Int.reduceNe, Int.reduceLT, Int.reduceLE, Int.reduceAdd, Int.reduceSub, Int.reduceMul, Int.reduceNeg, Int.reduceToNat, Int.reducePow, Nat.reducePow, Int.toNat_zero, not_false_eq_true, not_true_eq_false, reduceCtorEq, Nat.zero_add, Nat.add_zero, reduceIte, if_true, if_false, Bool.true_eq_false, Bool.false_eq_true, List.length_cons, List.length_nil, and_self, true_and, and_true, List.drop_zero, List.take_succ_cons, List.take_zero, List.drop_succ_cons, Nat.le_refl]
  | false =>
  have hi' : i < F.length := by omega
  have hk' : k < F.length := by omega
  have hgi : (F.map fun n : Int => [V.int .i64 n])[i]? = some [.int .i64 F[i]] := by simp [hi']
  have hgk : (F.map fun n : Int => [V.int .i64 n])[k]? = some [.int .i64 F[k]] := by simp [hk']
  have ni := f1 F[i] (List.getElem_mem _)
  have nk := f1 F[k] (List.getElem_mem _)
  have bi := okN_b (nr_t ni).2.2.1
  have bk := okN_b (nr_t nk).2.2.1
  have hwi : IntKind.i64.wrap (F[i] + 1) = F[i] + 1 := IntWalk.i64_in _ (by omega)
  have hwk : IntKind.i64.wrap (F[k] + 1) = F[k] + 1 := IntWalk.i64_in _ (by omega)
  have hik' : i ≠ k := by simp at hik; omega
  have hA1 : askP T A 1 [] F[i] 3 = ([⟨F[i], 3, 0⟩], 0, 0, 0) := by
    rw [askP_ok (kOK_of ht hs (by omega) (by simp) rfl) ni (by decide)]
    rfl
  have h10 : ∀ d, ans (TT 1000 (d + 8) 10 [iV T, iV A, iV 1, .one (.row []), iV F[i], iV 3]) = some (.tup [.one (.row [[.int .i64 F[i], .int .i64 3, .int .i64 0]]), iV 0, iV 0, iV 0]) := by
    intro d
    have h := e10 1000 d T A 1 [] F[i] 3 (by simp) (by simp)
    rw [hA1] at h
    exact h
  have h10b : ∀ d, ans (TT 1000 (d + 8) 10 [iV T, iV A, iV 1, .one (.row [[.int .i64 F[i], .int .i64 3, .int .i64 0]]), iV F[k], iV 4]) = some (askS (askP T A 1 [⟨F[i], 3, 0⟩] F[k] 4)) := fun d => e10 1000 d T A 1 [⟨F[i], 3, 0⟩] F[k] 4 (by simp) (by simp)
  have hk1 : kOK T A 1 [⟨F[i], 3, 0⟩] = true := kOK_one ht hs (by omega) ni (by simp [inc2, inB])
  have hdd : ∀ a : Int, decide (a = a) = true := fun a => by simp
  have hb : 0 ≤ (i : Int) ∧ (i : Int) < (F.length : Int) ∧ 0 ≤ (k : Int) ∧ (k : Int) < (F.length : Int) := by omega
  by_cases hlt : k < i
  · have hnr : nr T F[k] F[i] = true := srt_get hi' hlt f2
    have hA2 : askP T A 1 [⟨F[i], 3, 0⟩] F[k] 4 = ([⟨F[k], 4, 0⟩], F[i] + 1, F[k] + 1, 0) := by
      rw [askP_ok hk1 nk (by decide)]
      have e1 : hasN [⟨F[i], 3, 0⟩] F[k] = false := by simp [hasN]; exact fun e => nr_ne hnr e.symm
      unfold askT
      rw [e1]
      simp [nr_anti hnr, insP, kAt]
    rw [hA2] at h10b
    (try dsimp only [List.map] at h10b)
    have hd : decide ((k : Int) < (i : Int)) = true := by simp; omega
    simp only [hT, hS, h9, hF2, hu, hne, hI, hK, hik, hgi, hgk, h10, h10b, hwi, hwk, hdd, hd, hb.1, hb.2.1, hb.2.2.1, hb.2.2.2, hw0, List.length_map, List.length_cons, List.length_nil, Int.toNat_natCast, j6, b6, q6, qq, oo, pp, lives, V.live, purS, S.pur, V.pur, V.pur1, purs, pur1s, mentS, S.ment, S.ment.smt, ments, V.ment, List.append_nil, Hp.ok64, List.all_nil, List.all_cons, S.purT, S.purT.sp, S.self, V.self, selfs, S.self.sself, Hp.self, S.ren, S.ren.sren, V.ren, Hp.ren, true_or, or_true, false_or, or_false, Bool.and_true, Bool.true_and, Bool.and_false, Bool.false_and, Bool.and_self, hand, handSs, handS, handVs, handV, handBs, upTo, one1, List.contains_nil, List.isEmpty_nil, List.take_length, List.getElem?_cons_zero, List.getElem?_cons_succ, fillV, fillR, setAt, List.set_cons_zero, List.set_cons_succ, List.replicate, evE, asRow, callS, callT, callU, names, dedup, blkMents, Blk.mentB, idxOf, V.mapS, S.mapS, S.mapS.smapS, Blk.mapS, encs, encB, isBox, backN, hpBack, killsV, killsS, killsS.ks, killsB, rowsOf, without, keysOk, noTup, boxesOk, fresh, Option.isNone_none, Blk.ren, aloOk, aloV, aloB, frzL, freezes, Go.Proofs.YtbnommmnflmaaaaR.freeze, drop1, S.frz, S.frz.sf, V.frz, Blk.frz, slMent, pickL, List.map_append, S.kill, S.kill.sk, V.kill, Blk.kill, eqvs, ones, Bool.not_true, Bool.not_false, decide_true, decide_false, List.length_append, Int.le_refl, Int.toNat_natCast, Int.toNat_one, Int.cast_ofNat_Int, List.all_nil, List.contains_cons, Nat.reduceBEq, Bool.false_or, Bool.or_false, Bool.true_or, Bool.or_true, look_hit, look_end, look_miss, List.map_cons, List.map_nil, List.cons_append, List.nil_append, Option.getD_some, Option.getD_none, X.ev, ev, bin, ibin, Option.map_some, Option.map_none, Option.bind_some, S.cells, rd, sub, Go.Proofs.YtbnommmnflmaaaaR.shape, asI, bnd, evs, Rs.ev, R.ev, params, okKey, Nat.reduceAdd, Nat.reduceMul, Nat.reduceDiv, Nat.reduceEqDiff, Nat.reduceLeDiff, Nat.reduceLT, Int.reduceEq, Int.reduceNe, Int.reduceLT, Int.reduceLE, Int.reduceAdd, Int.reduceSub, Int.reduceMul, Int.reduceNeg, Int.reduceToNat, Int.reducePow, Nat.reducePow, Int.toNat_zero, not_false_eq_true, not_true_eq_false, reduceCtorEq, Nat.zero_add, Nat.add_zero, reduceIte, if_true, if_false, Bool.true_eq_false, Bool.false_eq_true, List.length_cons, List.length_nil, and_self, true_and, and_true, List.drop_zero, List.take_succ_cons, List.take_zero, List.drop_succ_cons, Nat.le_refl]
  · have hnr : nr T F[i] F[k] = true := srt_get hk' (by omega) f2
    have hA2 : askP T A 1 [⟨F[i], 3, 0⟩] F[k] 4 = ([⟨F[i], 3, 0⟩], F[k] + 1, F[i] + 1, 0) := by
      rw [askP_ok hk1 nk (by decide)]
      have e1 : hasN [⟨F[i], 3, 0⟩] F[k] = false := by simp [hasN]; exact nr_ne hnr
      unfold askT
      rw [e1]
      simp [hnr]
    rw [hA2] at h10b
    (try dsimp only [List.map] at h10b)
    have hd : decide ((k : Int) < (i : Int)) = false := by simp; omega
    simp only [hT, hS, h9, hF2, hu, hne, hI, hK, hik, hgi, hgk, h10, h10b, hwi, hwk, hdd, hd, hb.1, hb.2.1, hb.2.2.1, hb.2.2.2, hw0, List.length_map, List.length_cons, List.length_nil, Int.toNat_natCast, j6, b6, q6, qq, oo, pp, lives, V.live, purS, S.pur, V.pur, V.pur1, purs, pur1s, mentS, S.ment, S.ment.smt, ments, V.ment, List.append_nil, Hp.ok64, List.all_nil, List.all_cons, S.purT, S.purT.sp, S.self, V.self, selfs, S.self.sself, Hp.self, S.ren, S.ren.sren, V.ren, Hp.ren, true_or, or_true, false_or, or_false, Bool.and_true, Bool.true_and, Bool.and_false, Bool.false_and, Bool.and_self, hand, handSs, handS, handVs, handV, handBs, upTo, one1, List.contains_nil, List.isEmpty_nil, List.take_length, List.getElem?_cons_zero, List.getElem?_cons_succ, fillV, fillR, setAt, List.set_cons_zero, List.set_cons_succ, List.replicate, evE, asRow, callS, callT, callU, names, dedup, blkMents, Blk.mentB, idxOf, V.mapS, S.mapS, S.mapS.smapS, Blk.mapS, encs, encB, isBox, backN, hpBack, killsV, killsS, killsS.ks, killsB, rowsOf, without, keysOk, noTup, boxesOk, fresh, Option.isNone_none, Blk.ren, aloOk, aloV, aloB, frzL, freezes, Go.Proofs.YtbnommmnflmaaaaR.freeze, drop1, S.frz, S.frz.sf, V.frz, Blk.frz, slMent, pickL, List.map_append, S.kill, S.kill.sk, V.kill, Blk.kill, eqvs, ones, Bool.not_true, Bool.not_false, decide_true, decide_false, List.length_append, Int.le_refl, Int.toNat_natCast, Int.toNat_one, Int.cast_ofNat_Int, List.all_nil, List.contains_cons, Nat.reduceBEq, Bool.false_or, Bool.or_false, Bool.true_or, Bool.or_true, look_hit, look_end, look_miss, List.map_cons, List.map_nil, List.cons_append, List.nil_append, Option.getD_some, Option.getD_none, X.ev, ev, bin, ibin, Option.map_some, Option.map_none, Option.bind_some, S.cells, rd, sub, Go.Proofs.YtbnommmnflmaaaaR.shape, asI, bnd, evs, Rs.ev, R.ev, params, okKey, Nat.reduceAdd, Nat.reduceMul, Nat.reduceDiv, Nat.reduceEqDiff, Nat.reduceLeDiff, Nat.reduceLT, Int.reduceEq, Int.reduceNe, Int.reduceLT, Int.reduceLE, Int.reduceAdd, Int.reduceSub, Int.reduceMul, Int.reduceNeg, Int.reduceToNat, Int.reducePow, Nat.reducePow, Int.toNat_zero, not_false_eq_true, not_true_eq_false, reduceCtorEq, Nat.zero_add, Nat.add_zero, reduceIte, if_true, if_false, Bool.true_eq_false, Bool.false_eq_true, List.length_cons, List.length_nil, and_self, true_and, and_true, List.drop_zero, List.take_succ_cons, List.take_zero, List.drop_succ_cons, Nat.le_refl]
end Go.Proofs.Ytbnommmnflmaaaa.KA
