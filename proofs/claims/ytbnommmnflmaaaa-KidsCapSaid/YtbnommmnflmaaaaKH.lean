import Derived.Test.YtbnommmnflmaaaaKG
set_option linter.unusedSimpArgs false
set_option linter.unusedVariables false
namespace Go.Proofs.Ytbnommmnflmaaaa.KA
open Go Go.Proofs.YtbnommmnflmaaaaR Go.Proofs.Ytbnommmnflmaaaa.IK
set_option maxRecDepth 100000
set_option maxHeartbeats 4000000
theorem gapB : ((List.range 4).all fun (t : Nat) => (List.range 8).all fun (a : Nat) => (List.range 8).all fun (b : Nat) => decide (a = b) || !decide (gap (t : Int) (a : Int) = gap (t : Int) (b : Int))) = true := by decide +kernel
theorem gap_inj {t a b : Int} (ht : okT t = true) (ha : okN a = true) (hb : okN b = true) (h : gap t a = gap t b) : a = b := by
  have h1 := inB_t ht
  have h2 := inB_t ha
  have h3 := inB_t hb
  obtain ⟨t', rfl⟩ := Int.eq_ofNat_of_zero_le h1.1
  obtain ⟨a', rfl⟩ := Int.eq_ofNat_of_zero_le h2.1
  obtain ⟨b', rfl⟩ := Int.eq_ofNat_of_zero_le h3.1
  have h4 := List.all_eq_true.1 (List.all_eq_true.1 (List.all_eq_true.1 gapB t' (by simp; omega)) a' (by simp; omega)) b' (by simp; omega)
  simp only [Bool.or_eq_true, decide_eq_true_eq, Bool.not_eq_true', decide_eq_false_iff_not] at h4
  rcases h4 with h4 | h4
  · rw [h4]
  · exact absurd h h4
theorem nr_anti {t a b : Int} (h : nr t a b = true) : nr t b a = false := by
  cases h2 : nr t b a with
  | false => rfl
  | true =>
    have := nr_t h
    have := nr_t h2
    omega
theorem nr_ne {t a b : Int} (h : nr t a b = true) : a ≠ b := by
  rintro rfl
  have := nr_t h
  omega
theorem nr_tot {t a b : Int} (ht : okT t = true) (ha : okN a = true) (hb : okN b = true) (hne : a ≠ b) (h : nr t a b = false) : nr t b a = true := by
  refine nr_of ht hb ha ?_
  have h1 : gap t a ≠ gap t b := fun e => hne (gap_inj ht ha hb e)
  have h2 : ¬ gap t a < gap t b := fun e => by rw [nr_of ht ha hb e] at h; cases h
  omega
theorem insP_nil {t : Int} {x : Kd} : insP t x [] = [x] := rfl
theorem insP_t {t : Int} {x y : Kd} {r : List Kd} (h : nr t y.n x.n = true) : insP t x (y :: r) = y :: insP t x r := by
  unfold insP
  rw [kAt, if_pos h]
  simp
theorem insP_f {t : Int} {x y : Kd} {r : List Kd} (h : nr t y.n x.n = false) : insP t x (y :: r) = x :: y :: r := by
  unfold insP
  rw [kAt, if_neg (by rw [h]; decide)]
  rfl
theorem stp_done {t : Int} {x : Kd} : ∀ {l o : List Kd}, l.foldl (stp t x) (o, true) = (o ++ l, true)
  | [], o => by simp
  | y :: r, o => by rw [List.foldl_cons, stp_t, stp_done]; simp
theorem stp_ins {t : Int} {x : Kd} : ∀ {l o : List Kd}, (∀ y ∈ l, nr t x.n y.n = !nr t y.n x.n) → fnl x (l.foldl (stp t x) (o, false)) = o ++ insP t x l
  | [], o, _ => rfl
  | y :: r, o, h => by
    have h1 := h y (by simp)
    rw [List.foldl_cons]
    cases h2 : nr t y.n x.n with
    | true =>
      rw [h2] at h1
      rw [stp_f2 h1, stp_ins (fun z hz => h z (by simp [hz])), insP_t h2]
      simp
    | false =>
      rw [h2] at h1
      rw [stp_f1 h1, stp_done, insP_f h2]
      simp [fnl]
theorem ins_eq {t : Int} {x : Kd} {l : List Kd} (ht : okT t = true) (hx : okN x.n = true) (hl : ∀ y ∈ l, okN y.n = true ∧ y.n ≠ x.n) : insR t x l = insP t x l := by
  unfold insR
  rw [stp_ins (o := []) fun y hy => ?_]
  · rfl
  · obtain ⟨h1, h2⟩ := hl y hy
    cases h3 : nr t y.n x.n with
    | true => exact nr_anti h3
    | false => exact nr_tot ht h1 hx h2 h3
theorem drp_id {n : Int} {l : List Kd} (h : ∀ y ∈ l, y.n ≠ n) : drp l n = l := by
  unfold drp
  rw [List.filter_eq_self]
  intro y hy
  simpa using h y hy
theorem drp_mem {n : Int} {l : List Kd} {y : Kd} (h : y ∈ drp l n) : y ∈ l ∧ y.n ≠ n := by
  unfold drp at h
  rw [List.mem_filter] at h
  exact ⟨h.1, by simpa using h.2⟩
theorem chn_gt {t : Int} {l : List Kd} {p : Int} (h : chn t p l = true) : ∀ y ∈ l, nr t p y.n = true := fun y hy => (chn_all h y hy).1
theorem set_eq {t : Int} {x : Kd} : ∀ {l : List Kd} {p : Int} {k : Nat}, chn t p l = true → (h : k < l.length) → l[k].n = x.n → insP t x (drp l x.n) = l.set k x
  | [], p, k, _, h, _ => by simp at h
  | y :: r, p, k, hc, h, hk => by
    simp only [chn, Bool.and_eq_true] at hc
    have hgt := chn_gt hc.2
    cases k with
    | zero =>
      have hy : y.n = x.n := by simpa using hk
      have hd : drp (y :: r) x.n = r := by
        have h1 : drp (y :: r) x.n = drp r x.n := by unfold drp; rw [List.filter_cons]; simp [hy]
        rw [h1]
        exact drp_id fun z hz => fun e => nr_ne (hgt z hz) (by rw [e, hy])
      rw [hd]
      cases r with
      | nil => rfl
      | cons z r' =>
        rw [insP_f (nr_anti (by rw [← hy]; exact hgt z (by simp)))]
        rfl
    | succ k =>
      have hk' : r[k]'(by simpa using h) = (y :: r)[k + 1] := rfl
      have hlt : nr t y.n x.n = true := by rw [← hk, ← hk']; exact hgt _ (List.getElem_mem _)
      have hd : drp (y :: r) x.n = y :: drp r x.n := by
        unfold drp
        rw [List.filter_cons]
        simp [nr_ne hlt]
      rw [hd, insP_t hlt, set_eq hc.2 (by simpa using h) (by rw [hk']; exact hk)]
      rfl
theorem hasN_f {l : List Kd} {n : Int} (h : hasN l n = false) : ∀ y ∈ l, y.n ≠ n := by
  intro y hy e
  unfold hasN at h
  rw [List.any_eq_false] at h
  exact h y hy (by simpa using e)
def askR (t limit : Int) (l : List Kd) (n inc : Int) : List Kd × Int × Int :=
  if hasN l n then (insR t ⟨n, inc, 0⟩ (drp l n), 0, 0) else
  if (l.length : Int) < limit then (insR t ⟨n, inc, 0⟩ l, 0, 0) else
  match l with
  | [] => ([], 0, 0)
  | y :: r => if nr t y.n n then (y :: r, n + 1, y.n + 1) else (insR t ⟨n, inc, 0⟩ ((y :: r).take r.length), ((y :: r)[r.length]'(by simp)).n + 1, n + 1)
theorem ask_eq {t self limit : Int} {l : List Kd} {n inc : Int} (hk : kOK t self limit l = true) (hn : nr t self n = true) : askT t limit l n inc = ((askR t limit l n inc).1, (askR t limit l n inc).2.1, (askR t limit l n inc).2.2, 0) := by
  have hok := kOK_t hk
  have hall := chn_all hok.2.2.2.2.2
  have hnn := (nr_t hn).2.2.1
  have hins : ∀ m : List Kd, (∀ y ∈ m, y ∈ l ∧ y.n ≠ n) → insR t ⟨n, inc, 0⟩ m = insP t ⟨n, inc, 0⟩ m := fun m hm => ins_eq hok.1 hnn fun y hy => ⟨(nr_t (hall y (hm y hy).1).1).2.2.1, (hm y hy).2⟩
  unfold askT askR
  cases hh : hasN l n with
  | true =>
    obtain ⟨k, k1, k2, k3, k4⟩ := ix_some (Int.le_refl 0) (show l.any (fun y => decide (y.n = n)) = true from hh)
    rw [Int.zero_add] at k1
    rw [if_pos rfl, if_pos rfl, k1, hins _ fun y hy => drp_mem hy]
    have := set_eq (x := ⟨n, inc, 0⟩) hok.2.2.2.2.2 k2 (by simpa using k3)
    (try dsimp only at this)
    rw [this]
    rfl
  | false =>
    have hne := hasN_f hh
    simp only [Bool.false_eq_true, if_false]
    by_cases hroom : (l.length : Int) < limit
    · simp only [if_pos hroom]
      rw [hins l fun y hy => ⟨hy, hne y hy⟩]
    · simp only [if_neg hroom]
      cases l with
      | nil => rfl
      | cons y r =>
        cases hf : nr t y.n n with
        | true => simp only [hf, if_true]
        | false =>
          simp only [hf]
          rw [hins ((y :: r).take r.length) fun z hz => ⟨List.mem_of_mem_take hz, hne z (List.mem_of_mem_take hz)⟩]
          rfl
theorem drp_len (l : List Kd) (n : Int) : (drp l n).length ≤ l.length := List.length_filter_le _ _
abbrev askQ (r : List Kd × Int × Int) : S := .tup [.one (rK r.1), iV r.2.1, iV r.2.2]
theorem e25 (N d : Nat) {t self limit : Int} {l : List Kd} {n inc : Int} (hk : kOK t self limit l = true) (hn : nr t self n = true) (hN : l.length < N) : ans (TT N (d + 5) 25 [iV t, iV limit, .one (rK l), iV n, iV inc]) = some (askQ (askR t limit l n inc)) := by
  have hok := kOK_t hk
  have hl : l.length ≤ 4 := by omega
  have hnb := okN_b (nr_t hn).2.2.1
  have hall := chn_all hok.2.2.2.2.2
  have hwn : IntKind.i64.wrap (n + 1) = n + 1 := IntWalk.i64_in _ (by omega)
  have h22 := fun d => e22 N d l n hN (by omega)
  rw [t25, F_ev rfl]
  cases hh : hasN l n with
  | true =>
    rw [hh] at h22
    have h21 := fun d => e21 N d l n hN (by omega)
    have h42 := fun d => e42 N d t (drp l n) ⟨n, inc, 0⟩ (by have := drp_len l n; omega) (by have := drp_len l n; omega)
    (try dsimp only at h42)
    simp only [h22, h21, h42, List.length_map, j25, b25, q25, qq, oo, pp, lives, V.live, purS, S.pur, V.pur, V.pur1, purs, pur1s, mentS, S.ment, S.ment.smt, ments, V.ment, List.append_nil, Hp.ok64, List.all_nil, List.all_cons, S.purT, S.purT.sp, S.self, V.self, selfs, S.self.sself, Hp.self, S.ren, S.ren.sren, V.ren, Hp.ren, true_or, or_true, false_or, or_false, Bool.and_true, Bool.true_and, Bool.and_false, Bool.false_and, Bool.and_self, hand, handSs, handS, handVs, handV, handBs, upTo, one1, List.contains_nil, List.isEmpty_nil, List.take_length, List.getElem?_cons_zero, List.getElem?_cons_succ, fillV, fillR, setAt, List.set_cons_zero, List.set_cons_succ, List.replicate, evE, asRow, callS, callT, callU, names, dedup, blkMents, Blk.mentB, idxOf, V.mapS, S.mapS, S.mapS.smapS, Blk.mapS, encs, encB, isBox, backN, hpBack, killsV, killsS, killsS.ks, killsB, rowsOf, without, keysOk, noTup, boxesOk, fresh, Option.isNone_none, Blk.ren, aloOk, aloV, aloB, frzL, freezes, Go.Proofs.YtbnommmnflmaaaaR.freeze, drop1, S.frz, S.frz.sf, V.frz, Blk.frz, slMent, pickL, List.map_append, S.kill, S.kill.sk, V.kill, Blk.kill, eqvs, ones, Bool.not_true, Bool.not_false, decide_true, decide_false, List.length_append, Int.le_refl, Int.toNat_natCast, Int.toNat_one, Int.cast_ofNat_Int, List.all_nil, List.contains_cons, Nat.reduceBEq, Bool.false_or, Bool.or_false, Bool.true_or, Bool.or_true, look_hit, look_end, look_miss, List.map_cons, List.map_nil, List.cons_append, List.nil_append, Option.getD_some, Option.getD_none, X.ev, ev, bin, ibin, Option.map_some, Option.map_none, Option.bind_some, S.cells, rd, sub, Go.Proofs.YtbnommmnflmaaaaR.shape, asI, bnd, evs, Rs.ev, R.ev, params, okKey, Nat.reduceAdd, Nat.reduceMul, Nat.reduceDiv, Nat.reduceEqDiff, Nat.reduceLeDiff, Nat.reduceLT, Int.reduceEq, Int.reduceNe, Int.reduceLT, Int.reduceLE, Int.reduceAdd, Int.reduceSub, Int.reduceMul, Int.reduceNeg, Int.reduceToNat, Int.reducePow, Nat.reducePow, Int.toNat_zero, not_false_eq_true, not_true_eq_false, reduceCtorEq, Nat.zero_add, Nat.add_zero, reduceIte, if_true, if_false, Bool.true_eq_false, Bool.false_eq_true, List.length_cons, List.length_nil, and_self, true_and, and_true, List.drop_zero, List.take_succ_cons, List.take_zero, List.drop_succ_cons, Nat.le_refl]
    simp [askR, hh]
  | false =>
  rw [hh] at h22
  cases hroom : decide ((l.length : Int) < limit) with
  | true =>
    have h42 := fun d => e42 N d t l ⟨n, inc, 0⟩ hN (by omega)
    (try dsimp only at h42)
    have hask : askR t limit l n inc = (insR t ⟨n, inc, 0⟩ l, 0, 0) := by unfold askR; rw [hh, if_neg (by decide), if_pos (by simpa using hroom)]
    rw [hask]
    simp only [h22, hroom, h42, List.length_map, j25, b25, q25, qq, oo, pp, lives, V.live, purS, S.pur, V.pur, V.pur1, purs, pur1s, mentS, S.ment, S.ment.smt, ments, V.ment, List.append_nil, Hp.ok64, List.all_nil, List.all_cons, S.purT, S.purT.sp, S.self, V.self, selfs, S.self.sself, Hp.self, S.ren, S.ren.sren, V.ren, Hp.ren, true_or, or_true, false_or, or_false, Bool.and_true, Bool.true_and, Bool.and_false, Bool.false_and, Bool.and_self, hand, handSs, handS, handVs, handV, handBs, upTo, one1, List.contains_nil, List.isEmpty_nil, List.take_length, List.getElem?_cons_zero, List.getElem?_cons_succ, fillV, fillR, setAt, List.set_cons_zero, List.set_cons_succ, List.replicate, evE, asRow, callS, callT, callU, names, dedup, blkMents, Blk.mentB, idxOf, V.mapS, S.mapS, S.mapS.smapS, Blk.mapS, encs, encB, isBox, backN, hpBack, killsV, killsS, killsS.ks, killsB, rowsOf, without, keysOk, noTup, boxesOk, fresh, Option.isNone_none, Blk.ren, aloOk, aloV, aloB, frzL, freezes, Go.Proofs.YtbnommmnflmaaaaR.freeze, drop1, S.frz, S.frz.sf, V.frz, Blk.frz, slMent, pickL, List.map_append, S.kill, S.kill.sk, V.kill, Blk.kill, eqvs, ones, Bool.not_true, Bool.not_false, decide_true, decide_false, List.length_append, Int.le_refl, Int.toNat_natCast, Int.toNat_one, Int.cast_ofNat_Int, List.all_nil, List.contains_cons, Nat.reduceBEq, Bool.false_or, Bool.or_false, Bool.true_or, Bool.or_true, look_hit, look_end, look_miss, List.map_cons, List.map_nil, List.cons_append, List.nil_append, Option.getD_some, Option.getD_none, X.ev, ev, bin, ibin, Option.map_some, Option.map_none, Option.bind_some, S.cells, rd, sub, Go.Proofs.YtbnommmnflmaaaaR.shape, asI, bnd, evs, Rs.ev, R.ev, params, okKey, Nat.reduceAdd, Nat.reduceMul, Nat.reduceDiv, Nat.reduceEqDiff, Nat.reduceLeDiff, Nat.reduceLT, Int.reduceEq, Int.reduceNe, Int.reduceLT, Int.reduceLE, Int.reduceAdd, Int.reduceSub, Int.reduceMul, Int.reduceNeg, Int.reduceToNat, Int.reducePow, Nat.reducePow, Int.toNat_zero, not_false_eq_true, not_true_eq_false, reduceCtorEq, Nat.zero_add, Nat.add_zero, reduceIte, if_true, if_false, Bool.true_eq_false, Bool.false_eq_true, List.length_cons, List.length_nil, and_self, true_and, and_true, List.drop_zero, List.take_succ_cons, List.take_zero, List.drop_succ_cons, Nat.le_refl]
  | false =>
  cases l with
  | nil => simp at hroom; omega
  | cons y r =>
    have hyb := okN_b (nr_t (hall y (by simp)).1).2.2.1
    have hwy : IntKind.i64.wrap (y.n + 1) = y.n + 1 := IntWalk.i64_in _ (by omega)
    have hg0 : ((y :: r).map eK)[0]? = some (eK y) := rfl
    have hb0 : (0 : Int) ≤ 0 ∧ (0 : Int) < (((y :: r).length : Nat) : Int) := by simp
    have h19 := fun d => e19 N d (y :: r) (by omega)
    cases hf : nr t y.n n with
    | true =>
      have hask : askR t limit (y :: r) n inc = (y :: r, n + 1, y.n + 1) := by unfold askR; rw [hh, if_neg (by decide), if_neg (by simpa using hroom)]; simp only [hf, if_true]
      rw [hask]
      clear hask
      generalize hL : y :: r = L at *
      simp only [h22, hroom, hf, e38, h19, hb0.1, hb0.2, hg0, hwn, hwy, takeK, List.length_map, j25, b25, q25, qq, oo, pp, lives, V.live, purS, S.pur, V.pur, V.pur1, purs, pur1s, mentS, S.ment, S.ment.smt, ments, V.ment, List.append_nil, Hp.ok64, List.all_nil, List.all_cons, S.purT, S.purT.sp, S.self, V.self, selfs, S.self.sself, Hp.self, S.ren, S.ren.sren, V.ren, Hp.ren, true_or, or_true, false_or, or_false, Bool.and_true, Bool.true_and, Bool.and_false, Bool.false_and, Bool.and_self, hand, handSs, handS, handVs, handV, handBs, upTo, one1, List.contains_nil, List.isEmpty_nil, List.take_length, List.getElem?_cons_zero, List.getElem?_cons_succ, fillV, fillR, setAt, List.set_cons_zero, List.set_cons_succ, List.replicate, evE, asRow, callS, callT, callU, names, dedup, blkMents, Blk.mentB, idxOf, V.mapS, S.mapS, S.mapS.smapS, Blk.mapS, encs, encB, isBox, backN, hpBack, killsV, killsS, killsS.ks, killsB, rowsOf, without, keysOk, noTup, boxesOk, fresh, Option.isNone_none, Blk.ren, aloOk, aloV, aloB, frzL, freezes, Go.Proofs.YtbnommmnflmaaaaR.freeze, drop1, S.frz, S.frz.sf, V.frz, Blk.frz, slMent, pickL, List.map_append, S.kill, S.kill.sk, V.kill, Blk.kill, eqvs, ones, Bool.not_true, Bool.not_false, decide_true, decide_false, List.length_append, Int.le_refl, Int.toNat_natCast, Int.toNat_one, Int.cast_ofNat_Int, List.all_nil, List.contains_cons, Nat.reduceBEq, Bool.false_or, Bool.or_false, Bool.true_or, Bool.or_true, look_hit, look_end, look_miss, List.map_cons, List.map_nil, List.cons_append, List.nil_append, Option.getD_some, Option.getD_none, X.ev, ev, bin, ibin, Option.map_some, Option.map_none, Option.bind_some, S.cells, rd, sub, Go.Proofs.YtbnommmnflmaaaaR.shape, asI, bnd, evs, Rs.ev, R.ev, params, okKey, Nat.reduceAdd, Nat.reduceMul, Nat.reduceDiv, Nat.reduceEqDiff, Nat.reduceLeDiff, Nat.reduceLT, Int.reduceEq, Int.reduceNe, Int.reduceLT, Int.reduceLE, Int.reduceAdd, Int.reduceSub, Int.reduceMul, Int.reduceNeg, Int.reduceToNat, Int.reducePow, Nat.reducePow, Int.toNat_zero, not_false_eq_true, not_true_eq_false, reduceCtorEq, Nat.zero_add, Nat.add_zero, reduceIte, if_true, if_false, Bool.true_eq_false, Bool.false_eq_true, List.length_cons, List.length_nil, and_self, true_and, and_true, List.drop_zero, List.take_succ_cons, List.take_zero, List.drop_succ_cons, Nat.le_refl]
    | false =>
      have hask : askR t limit (y :: r) n inc = (insR t ⟨n, inc, 0⟩ ((y :: r).take r.length), ((y :: r)[r.length]'(by simp)).n + 1, n + 1) := by unfold askR; rw [hh, if_neg (by decide), if_neg (by simpa using hroom)]; simp only [hf]; rfl
      rw [hask]
      obtain ⟨z, hz⟩ : ∃ z, z = (y :: r)[r.length]'(by simp) := ⟨_, rfl⟩
      rw [← hz]
      have hzm : z ∈ y :: r := by rw [hz]; exact List.getElem_mem _
      have hzb := okN_b (nr_t (hall z hzm).1).2.2.1
      have hwz : IntKind.i64.wrap (z.n + 1) = z.n + 1 := IntWalk.i64_in _ (by omega)
      have hgz : ((y :: r).map eK)[r.length]? = some (eK z) := by rw [List.getElem?_map, List.getElem?_eq_getElem (by simp), hz]; rfl
      have hw1 : IntKind.i64.wrap ((((y :: r).length : Nat) : Int) - 1) = ((r.length : Nat) : Int) := by rw [IntWalk.i64_in _ (by simp at hl ⊢; omega)]; simp
      have hbz : 0 ≤ ((r.length : Nat) : Int) ∧ ((r.length : Nat) : Int) < (((y :: r).length : Nat) : Int) := by simp; omega
      have hbz2 : ((r.length : Nat) : Int) ≤ (((y :: r).length : Nat) : Int) := by omega
      have hlm : ((y :: r).take r.length).length = r.length := by simp
      have h42 : ∀ d, ans (TT N (d + 4) 42 [iV t, .one (.row (((y :: r).map eK).take r.length)), aK ⟨n, inc, 0⟩]) = some (.one (rK (insR t ⟨n, inc, 0⟩ ((y :: r).take r.length)))) := by
        intro d
        have h := e42 N d t ((y :: r).take r.length) ⟨n, inc, 0⟩ (by rw [hlm]; simp at hN; omega) (by rw [hlm]; simp at hl; omega)
        rw [← List.map_take]
        exact h
      have hal := all3 (y :: r)
      clear hz hask
      generalize hL : y :: r = L at *
      generalize hI : insR t ⟨n, inc, 0⟩ (L.take r.length) = I at *
      (try dsimp only at h42)
      by_cases hr0 : r.length = 0
      · have hq : ((0 : Int) = ((r.length : Nat) : Int)) = True := eq_true (by omega)
        have h42' := h42
        rw [hr0, List.take_zero] at h42'
        simp only [h22, hroom, hf, e38, hb0.1, hb0.2, hg0, hgz, hw1, hwz, hwn, hbz.1, hbz.2, hbz2, hq, h42', hal, List.length_map, Int.toNat_natCast, j25, b25, q25, qq, oo, pp, lives, V.live, purS, S.pur, V.pur, V.pur1, purs, pur1s, mentS, S.ment, S.ment.smt, ments, V.ment, List.append_nil, Hp.ok64, List.all_nil, List.all_cons, S.purT, S.purT.sp, S.self, V.self, selfs, S.self.sself, Hp.self, S.ren, S.ren.sren, V.ren, Hp.ren, true_or, or_true, false_or, or_false, Bool.and_true, Bool.true_and, Bool.and_false, Bool.false_and, Bool.and_self, hand, handSs, handS, handVs, handV, handBs, upTo, one1, List.contains_nil, List.isEmpty_nil, List.take_length, List.getElem?_cons_zero, List.getElem?_cons_succ, fillV, fillR, setAt, List.set_cons_zero, List.set_cons_succ, List.replicate, evE, asRow, callS, callT, callU, names, dedup, blkMents, Blk.mentB, idxOf, V.mapS, S.mapS, S.mapS.smapS, Blk.mapS, encs, encB, isBox, backN, hpBack, killsV, killsS, killsS.ks, killsB, rowsOf, without, keysOk, noTup, boxesOk, fresh, Option.isNone_none, Blk.ren, aloOk, aloV, aloB, frzL, freezes, Go.Proofs.YtbnommmnflmaaaaR.freeze, drop1, S.frz, S.frz.sf, V.frz, Blk.frz, slMent, pickL, List.map_append, S.kill, S.kill.sk, V.kill, Blk.kill, eqvs, ones, Bool.not_true, Bool.not_false, decide_true, decide_false, List.length_append, Int.le_refl, Int.toNat_natCast, Int.toNat_one, Int.cast_ofNat_Int, List.all_nil, List.contains_cons, Nat.reduceBEq, Bool.false_or, Bool.or_false, Bool.true_or, Bool.or_true, look_hit, look_end, look_miss, List.map_cons, List.map_nil, List.cons_append, List.nil_append, Option.getD_some, Option.getD_none, X.ev, ev, bin, ibin, Option.map_some, Option.map_none, Option.bind_some, S.cells, rd, sub, Go.Proofs.YtbnommmnflmaaaaR.shape, asI, bnd, evs, Rs.ev, R.ev, params, okKey, Nat.reduceAdd, Nat.reduceMul, Nat.reduceDiv, Nat.reduceEqDiff, Nat.reduceLeDiff, Nat.reduceLT, Int.reduceEq, Int.reduceNe, Int.reduceLT, Int.reduceLE, Int.reduceAdd, Int.reduceSub, Int.reduceMul, Int.reduceNeg, Int.reduceToNat, Int.reducePow, Nat.reducePow, Int.toNat_zero, not_false_eq_true, not_true_eq_false, reduceCtorEq, Nat.zero_add, Nat.add_zero, reduceIte, if_true, if_false, Bool.true_eq_false, Bool.false_eq_true, List.length_cons, List.length_nil, and_self, true_and, and_true, List.drop_zero, List.take_succ_cons, List.take_zero, List.drop_succ_cons, Nat.le_refl]
      · have hq : ((0 : Int) = ((r.length : Nat) : Int)) = False := eq_false (by omega)
        simp only [h22, hroom, hf, e38, hb0.1, hb0.2, hg0, hgz, hw1, hwz, hwn, hbz.1, hbz.2, hbz2, hq, h42, hal, List.length_map, List.drop_zero, Int.toNat_natCast, j25, b25, q25, qq, oo, pp, lives, V.live, purS, S.pur, V.pur, V.pur1, purs, pur1s, mentS, S.ment, S.ment.smt, ments, V.ment, List.append_nil, Hp.ok64, List.all_nil, List.all_cons, S.purT, S.purT.sp, S.self, V.self, selfs, S.self.sself, Hp.self, S.ren, S.ren.sren, V.ren, Hp.ren, true_or, or_true, false_or, or_false, Bool.and_true, Bool.true_and, Bool.and_false, Bool.false_and, Bool.and_self, hand, handSs, handS, handVs, handV, handBs, upTo, one1, List.contains_nil, List.isEmpty_nil, List.take_length, List.getElem?_cons_zero, List.getElem?_cons_succ, fillV, fillR, setAt, List.set_cons_zero, List.set_cons_succ, List.replicate, evE, asRow, callS, callT, callU, names, dedup, blkMents, Blk.mentB, idxOf, V.mapS, S.mapS, S.mapS.smapS, Blk.mapS, encs, encB, isBox, backN, hpBack, killsV, killsS, killsS.ks, killsB, rowsOf, without, keysOk, noTup, boxesOk, fresh, Option.isNone_none, Blk.ren, aloOk, aloV, aloB, frzL, freezes, Go.Proofs.YtbnommmnflmaaaaR.freeze, drop1, S.frz, S.frz.sf, V.frz, Blk.frz, slMent, pickL, List.map_append, S.kill, S.kill.sk, V.kill, Blk.kill, eqvs, ones, Bool.not_true, Bool.not_false, decide_true, decide_false, List.length_append, Int.le_refl, Int.toNat_natCast, Int.toNat_one, Int.cast_ofNat_Int, List.all_nil, List.contains_cons, Nat.reduceBEq, Bool.false_or, Bool.or_false, Bool.true_or, Bool.or_true, look_hit, look_end, look_miss, List.map_cons, List.map_nil, List.cons_append, List.nil_append, Option.getD_some, Option.getD_none, X.ev, ev, bin, ibin, Option.map_some, Option.map_none, Option.bind_some, S.cells, rd, sub, Go.Proofs.YtbnommmnflmaaaaR.shape, asI, bnd, evs, Rs.ev, R.ev, params, okKey, Nat.reduceAdd, Nat.reduceMul, Nat.reduceDiv, Nat.reduceEqDiff, Nat.reduceLeDiff, Nat.reduceLT, Int.reduceEq, Int.reduceNe, Int.reduceLT, Int.reduceLE, Int.reduceAdd, Int.reduceSub, Int.reduceMul, Int.reduceNeg, Int.reduceToNat, Int.reducePow, Nat.reducePow, Int.toNat_zero, not_false_eq_true, not_true_eq_false, reduceCtorEq, Nat.zero_add, Nat.add_zero, reduceIte, if_true, if_false, Bool.true_eq_false, Bool.false_eq_true, List.length_cons, List.length_nil, and_self, true_and, and_true, List.drop_zero, List.take_succ_cons, List.take_zero, List.drop_succ_cons, Nat.le_refl]
end Go.Proofs.Ytbnommmnflmaaaa.KA
