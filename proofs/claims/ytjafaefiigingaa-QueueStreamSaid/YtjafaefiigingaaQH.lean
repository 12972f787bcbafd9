import Derived.Test.YtjafaefiigingaaQG
set_option linter.unusedSimpArgs false
set_option linter.unusedVariables false
namespace Go.Proofs.Ytjafaefiigingaa.QA
open Go Go.Proofs.YtjafaefiigingaaR Go.Proofs.Ytjafaefiigingaa.IQ
set_option maxRecDepth 100000
abbrev D (e s v : Int) : Ev := ⟨1, e, s, 0, v, 0⟩
abbrev G (e s l : Int) : Ev := ⟨2, e, s, l, 0, 0⟩
theorem e23 (N d : Nat) (e s v : Int) : TT N (d + 1) 23 [iV e, iV s, iV v] = some (aE (D e s v), []) := by
  rw [t23, F_ev rfl]
  simp only [j23, b23, q23, go_seq, go_region, go_block, go_cond, go_skip, go_ret, go_exit, go_xnil, go_xb, go_xc, go_xo, go_b, go_nil, go_keep, go_frz, go_o (i := .mov _) rfl rfl, go_g (i := .mov _) rfl rfl, go_o (i := .nilsl _ _ _) rfl rfl, go_g (i := .nilsl _ _ _) rfl rfl, go_o (i := .pick _ _ _) rfl rfl, go_g (i := .pick _ _ _) rfl rfl, go_o (i := .bin _ _ _) rfl rfl, go_g (i := .bin _ _ _) rfl rfl, go_o (i := .eqb _ _ _) rfl rfl, go_g (i := .eqb _ _ _) rfl rfl, go_o (i := .eqs _ _ _ _) rfl rfl, go_g (i := .eqs _ _ _ _) rfl rfl, go_o (i := .isnil _ _) rfl rfl, go_g (i := .isnil _ _) rfl rfl, go_o (i := .un _ _) rfl rfl, go_g (i := .un _ _) rfl rfl, go_o (i := .conv _ _) rfl rfl, go_g (i := .conv _ _) rfl rfl, go_o (i := .alloc _) rfl rfl, go_g (i := .alloc _) rfl rfl, go_o (i := .box _) rfl rfl, go_g (i := .box _) rfl rfl, go_o (i := .build _ _) rfl rfl, go_g (i := .build _ _) rfl rfl, go_o (i := .bsl _ _ _ _ _) rfl rfl, go_g (i := .bsl _ _ _ _ _) rfl rfl, go_o (i := .load _ _ _) rfl rfl, go_g (i := .load _ _ _) rfl rfl, go_o (i := .nck _) rfl rfl, go_g (i := .nck _) rfl rfl, go_o (i := .mks _ _ _ _ _ _) rfl rfl, go_g (i := .mks _ _ _ _ _ _) rfl rfl, go_o (i := .cut _ _ _ _) rfl rfl, go_g (i := .cut _ _ _ _) rfl rfl, go_o (i := .fad _ _) rfl rfl, go_g (i := .fad _ _) rfl rfl, go_o (i := .fld _ _ _ _) rfl rfl, go_g (i := .fld _ _ _ _) rfl rfl, go_o (i := .iad _ _ _) rfl rfl, go_g (i := .iad _ _ _) rfl rfl, go_o (i := .iada _ _ _ _) rfl rfl, go_g (i := .iada _ _ _ _) rfl rfl, go_o (i := .idx _ _ _ _ _) rfl rfl, go_g (i := .idx _ _ _ _ _) rfl rfl, go_o (i := .ext _ _) rfl rfl, go_g (i := .ext _ _) rfl rfl, go_o (i := .call _ _ _) rfl rfl, go_g (i := .call _ _ _) rfl rfl, go_o (i := .callv _ _ _) rfl rfl, go_g (i := .callv _ _ _) rfl rfl, go_o (i := .len _) rfl rfl, go_g (i := .len _) rfl rfl, go_o (i := .mx _ _) rfl rfl, go_g (i := .mx _ _) rfl rfl, go_o (i := .mn _ _) rfl rfl, go_g (i := .mn _ _) rfl rfl, go_o (i := .mkf _ _) rfl rfl, go_g (i := .mkf _ _) rfl rfl, callI_f, callI_t, callP_s, callQ_s, callF_nil, callF_cons, callO_nil, callO_cons, ans_s, ret0_s, purS, S.pur, V.pur, V.pur1, purs, pur1s, mentS, S.ment, S.ment.smt, ments, V.ment, List.append_nil, Hp.ok64, List.all_nil, List.all_cons, S.purT, S.purT.sp, S.self, V.self, selfs, S.self.sself, Hp.self, S.ren, S.ren.sren, V.ren, Hp.ren, true_or, or_true, false_or, or_false, Bool.and_true, Bool.true_and, Bool.and_false, Bool.false_and, Bool.and_self, hand, handSs, handS, handVs, handV, List.contains_nil, List.isEmpty_nil, List.take_length, List.getElem?_cons_zero, List.getElem?_cons_succ, fillV, fillR, setAt, List.set_cons_zero, List.set_cons_succ, List.replicate, evE, asRow, List.map_append, S.kill, S.kill.sk, V.kill, Blk.kill, eqvs, ones, Bool.not_true, Bool.not_false, decide_true, decide_false, go_loop, aft_norm, aft_exit, aft_ret, goL_n, goL_x, goL_r, go_s, go_e (i := .app _ _ _ _ _) rfl, goI_b, goG_t, goG_f, goG_u, goO_0, goO_1, goO_2, goF_n, goF2_n, goS_s, goE_s, goK_s, br_t, br_f, put_some, put_none, vG_nil, vH_nil, vG_e, List.length_append, bq1, bq2, bq3, bq4, cz, cz1, cz2, cz3, cz4, Int.le_refl, Int.toNat_natCast, Int.toNat_one, cast0, cast1, Int.cast_ofNat_Int, List.all_nil, vH_e, List.contains_cons, Nat.reduceBEq, Bool.false_or, Bool.or_false, Bool.true_or, Bool.or_true, look_hit, look_end, look_miss, List.map_cons, List.map_nil, List.cons_append, List.nil_append, Option.getD_some, Option.getD_none, X.ev, ev, bin, ibin, Option.map_some, Option.map_none, Option.bind_some, S.cells, rd, sub, Go.Proofs.YtjafaefiigingaaR.shape, asI, bnd, evs, fin_ret, fin_norm, handO_s, Rs.ev, R.ev, params, okKey, Nat.reduceAdd, Nat.reduceMul, Nat.reduceDiv, Nat.reduceEqDiff, Nat.reduceLeDiff, Nat.reduceLT, Int.reduceEq, Int.reduceNe, Int.reduceLT, Int.reduceLE, Int.reduceAdd, Int.reduceSub, Int.reduceMul, Int.reduceNeg, Int.reduceToNat, Int.reducePow, Nat.reducePow, Int.toNat_zero, not_false_eq_true, not_true_eq_false, reduceCtorEq, Nat.zero_add, Nat.add_zero, reduceIte, if_true, if_false, Bool.true_eq_false, Bool.false_eq_true, List.length_cons, List.length_nil, and_self, true_and, and_true, List.drop_zero, List.take_succ_cons, List.take_zero, List.drop_succ_cons, Nat.le_refl]
  repeat' (refine fin_cases (fun h1 => ?_) (fun h1 => ?_) <;> simp only [h1, j23, b23, q23, go_seq, go_region, go_block, go_cond, go_skip, go_ret, go_exit, go_xnil, go_xb, go_xc, go_xo, go_b, go_nil, go_keep, go_frz, go_o (i := .mov _) rfl rfl, go_g (i := .mov _) rfl rfl, go_o (i := .nilsl _ _ _) rfl rfl, go_g (i := .nilsl _ _ _) rfl rfl, go_o (i := .pick _ _ _) rfl rfl, go_g (i := .pick _ _ _) rfl rfl, go_o (i := .bin _ _ _) rfl rfl, go_g (i := .bin _ _ _) rfl rfl, go_o (i := .eqb _ _ _) rfl rfl, go_g (i := .eqb _ _ _) rfl rfl, go_o (i := .eqs _ _ _ _) rfl rfl, go_g (i := .eqs _ _ _ _) rfl rfl, go_o (i := .isnil _ _) rfl rfl, go_g (i := .isnil _ _) rfl rfl, go_o (i := .un _ _) rfl rfl, go_g (i := .un _ _) rfl rfl, go_o (i := .conv _ _) rfl rfl, go_g (i := .conv _ _) rfl rfl, go_o (i := .alloc _) rfl rfl, go_g (i := .alloc _) rfl rfl, go_o (i := .box _) rfl rfl, go_g (i := .box _) rfl rfl, go_o (i := .build _ _) rfl rfl, go_g (i := .build _ _) rfl rfl, go_o (i := .bsl _ _ _ _ _) rfl rfl, go_g (i := .bsl _ _ _ _ _) rfl rfl, go_o (i := .load _ _ _) rfl rfl, go_g (i := .load _ _ _) rfl rfl, go_o (i := .nck _) rfl rfl, go_g (i := .nck _) rfl rfl, go_o (i := .mks _ _ _ _ _ _) rfl rfl, go_g (i := .mks _ _ _ _ _ _) rfl rfl, go_o (i := .cut _ _ _ _) rfl rfl, go_g (i := .cut _ _ _ _) rfl rfl, go_o (i := .fad _ _) rfl rfl, go_g (i := .fad _ _) rfl rfl, go_o (i := .fld _ _ _ _) rfl rfl, go_g (i := .fld _ _ _ _) rfl rfl, go_o (i := .iad _ _ _) rfl rfl, go_g (i := .iad _ _ _) rfl rfl, go_o (i := .iada _ _ _ _) rfl rfl, go_g (i := .iada _ _ _ _) rfl rfl, go_o (i := .idx _ _ _ _ _) rfl rfl, go_g (i := .idx _ _ _ _ _) rfl rfl, go_o (i := .ext _ _) rfl rfl, go_g (i := .ext _ _) rfl rfl, go_o (i := .call _ _ _) rfl rfl, go_g (i := .call _ _ _) rfl rfl, go_o (i := .callv _ _ _) rfl rfl, go_g (i := .callv _ _ _) rfl rfl, go_o (i := .len _) rfl rfl, go_g (i := .len _) rfl rfl, go_o (i := .mx _ _) rfl rfl, go_g (i := .mx _ _) rfl rfl, go_o (i := .mn _ _) rfl rfl, go_g (i := .mn _ _) rfl rfl, go_o (i := .mkf _ _) rfl rfl, go_g (i := .mkf _ _) rfl rfl, callI_f, callI_t, callP_s, callQ_s, callF_nil, callF_cons, callO_nil, callO_cons, ans_s, ret0_s, purS, S.pur, V.pur, V.pur1, purs, pur1s, mentS, S.ment, S.ment.smt, ments, V.ment, List.append_nil, Hp.ok64, List.all_nil, List.all_cons, S.purT, S.purT.sp, S.self, V.self, selfs, S.self.sself, Hp.self, S.ren, S.ren.sren, V.ren, Hp.ren, true_or, or_true, false_or, or_false, Bool.and_true, Bool.true_and, Bool.and_false, Bool.false_and, Bool.and_self, hand, handSs, handS, handVs, handV, List.contains_nil, List.isEmpty_nil, List.take_length, List.getElem?_cons_zero, List.getElem?_cons_succ, fillV, fillR, setAt, List.set_cons_zero, List.set_cons_succ, List.replicate, evE, asRow, List.map_append, S.kill, S.kill.sk, V.kill, Blk.kill, eqvs, ones, Bool.not_true, Bool.not_false, decide_true, decide_false, go_loop, aft_norm, aft_exit, aft_ret, goL_n, goL_x, goL_r, go_s, go_e (i := .app _ _ _ _ _) rfl, goI_b, goG_t, goG_f, goG_u, goO_0, goO_1, goO_2, goF_n, goF2_n, goS_s, goE_s, goK_s, br_t, br_f, put_some, put_none, vG_nil, vH_nil, vG_e, List.length_append, bq1, bq2, bq3, bq4, cz, cz1, cz2, cz3, cz4, Int.le_refl, Int.toNat_natCast, Int.toNat_one, cast0, cast1, Int.cast_ofNat_Int, List.all_nil, vH_e, List.contains_cons, Nat.reduceBEq, Bool.false_or, Bool.or_false, Bool.true_or, Bool.or_true, look_hit, look_end, look_miss, List.map_cons, List.map_nil, List.cons_append, List.nil_append, Option.getD_some, Option.getD_none, X.ev, ev, bin, ibin, Option.map_some, Option.map_none, Option.bind_some, S.cells, rd, sub, Go.Proofs.YtjafaefiigingaaR.shape, asI, bnd, evs, fin_ret, fin_norm, handO_s, Rs.ev, R.ev, params, okKey, Nat.reduceAdd, Nat.reduceMul, Nat.reduceDiv, Nat.reduceEqDiff, Nat.reduceLeDiff, Nat.reduceLT, Int.reduceEq, Int.reduceNe, Int.reduceLT, Int.reduceLE, Int.reduceAdd, Int.reduceSub, Int.reduceMul, Int.reduceNeg, Int.reduceToNat, Int.reducePow, Nat.reducePow, Int.toNat_zero, not_false_eq_true, not_true_eq_false, reduceCtorEq, Nat.zero_add, Nat.add_zero, reduceIte, if_true, if_false, Bool.true_eq_false, Bool.false_eq_true, List.length_cons, List.length_nil, and_self, true_and, and_true, List.drop_zero, List.take_succ_cons, List.take_zero, List.drop_succ_cons, Nat.le_refl])
/-- A number below m out of any. -/
theorem um (n m : Int) (h : 0 < m ∧ m < 100000) : ∃ a : Nat, IntKind.i64.wrap ((IntKind.u64.wrap n).tmod m) = (a : Int) ∧ (a : Int) < m := by
  have h0 : 0 ≤ IntKind.u64.wrap n := by simp only [IntKind.wrap, IntKind.bits, IntKind.signed]; simp; omega
  have h1 : (IntKind.u64.wrap n).tmod m = (IntKind.u64.wrap n) % m := Int.tmod_eq_emod_of_nonneg h0
  have h2 : 0 ≤ (IntKind.u64.wrap n) % m := Int.emod_nonneg _ (by omega)
  have h3 : (IntKind.u64.wrap n) % m < m := Int.emod_lt_of_pos _ (by omega)
  refine ⟨((IntKind.u64.wrap n) % m).toNat, ?_, by omega⟩
  rw [h1, IntWalk.i64_in _ (by omega)]
  omega
/-! ### Plain queues -/
theorem ev_D {e s v : Int} (he : epOK e = true) (hs : 1 ≤ s ∧ s ≤ 1073741824) (hv : 0 ≤ v ∧ v ≤ 2147483647) : evOK (D e s v) = true := by simp [evOK, he, inB, hs, hv]
theorem ev_G {e s l : Int} (he : epOK e = true) (hs : 1 ≤ s ∧ s ≤ 1073741824) (hl : s ≤ l ∧ l ≤ 1073741824) : evOK (G e s l) = true := by simp [evOK, he, inB, hs, hl]
theorem q_of {l : List Ev} {limit : Int} (h1 : 2 ≤ limit ∧ limit ≤ 32) (h2 : (l.length : Int) ≤ limit) (h3 : ∀ x ∈ l, evOK x = true) (h4 : (l.length : Int) = limit → lastK l = 2) : qOK l limit = true := by
  have h3' : l.all evOK = true := List.all_eq_true.2 h3
  simp only [qOK, h1.1, h1.2, h2, h3', decide_true, Bool.true_and]
  by_cases h : (l.length : Int) = limit
  · simp [h4 h]
  · simp [h]
theorem qp_room {l : List Ev} {limit : Int} {x : Ev} (hq : qOK l limit = true) (hx : evOK x = true) (h : (l.length : Int) < limit - 1) : putE l limit x = (0, l ++ [x]) := by
  simp only [putE, hq, hx, Bool.and_true, if_true, if_pos h]
theorem qp_last {l : List Ev} {limit : Int} {x g : Ev} (hq : qOK l limit = true) (hx : evOK x = true) (hg : gapE x = some g) (h : (l.length : Int) = limit - 1) : putE l limit x = (0, l ++ [g]) := by
  simp only [putE, hq, hx, Bool.and_true, if_true, hg, if_neg (show ¬ (l.length : Int) < limit - 1 by omega), if_pos (show (l.length : Int) < limit by omega)]
theorem qp_none {l : List Ev} {limit : Int} {x : Ev} (hq : qOK l limit = true) (hx : evOK x = true) (hg : gapE x = none) (h : limit - 1 ≤ (l.length : Int)) : putE l limit x = (6, []) := by
  simp only [putE, hq, hx, Bool.and_true, if_true, hg, if_neg (show ¬ (l.length : Int) < limit - 1 by omega)]
theorem qp_more {q : List Ev} {limit : Int} {x g y : Ev} (hq : qOK (q ++ [y]) limit = true) (hx : evOK x = true) (hg : gapE x = some g) (h : ((q ++ [y]).length : Int) = limit) : putE (q ++ [y]) limit x = if g.e = y.e ∧ g.s = y.l + 1 then (0, q ++ [{ y with l := g.l }]) else (6, []) := by
  simp only [putE, hq, hx, Bool.and_true, if_true, hg, if_neg (show ¬ ((q ++ [y]).length : Int) < limit - 1 by omega), if_neg (show ¬ ((q ++ [y]).length : Int) < limit by omega)]
  simp
/-! ### A queue that is filled -/
/-- The first ones. -/
def pre (k : Nat) : List Ev := (List.range k).map fun (j : Nat) => D 16 (1 + (j : Int)) 0
theorem pre_len (k : Nat) : (pre k).length = k := by simp [pre]
theorem pre_succ (k : Nat) : pre (k + 1) = pre k ++ [D 16 (1 + (k : Int)) 0] := by simp [pre, List.range_succ]
theorem ep16 : epOK 16 = true := by decide
theorem ep32 : epOK 32 = true := by decide
theorem pre_ok (k : Nat) (hk : k < 1000) : ∀ x ∈ pre k, evOK x = true := by
  intro x hx
  simp only [pre, List.mem_map, List.mem_range] at hx
  obtain ⟨j, hj, rfl⟩ := hx
  exact ev_D ep16 (by omega) (by omega)
/-- Behind so many. -/
def full (L i : Nat) : List Ev := if i < L then pre i else pre (L - 1) ++ [G 16 (L : Int) (i : Int)]
theorem full_len (L i : Nat) (hL : 2 ≤ L) : (full L i).length = if i < L then i else L := by
  unfold full; split <;> simp [pre_len]; omega
theorem full_ok (L i : Nat) (hL : 2 ≤ L ∧ L ≤ 32) (hi : i < 900) : ∀ x ∈ full L i, evOK x = true := by
  intro x hx
  unfold full at hx
  split at hx
  · exact pre_ok i (by omega) x hx
  · rcases List.mem_append.1 hx with h | h
    · exact pre_ok _ (by omega) x h
    · obtain rfl := List.mem_singleton.1 h
      exact ev_G ep16 (by omega) (by omega)
theorem full_q (L i : Nat) (hL : 2 ≤ L ∧ L ≤ 32) (hi : i < 900) : qOK (full L i) (L : Int) = true := by
  have hl := full_len L i hL.1
  refine q_of (by omega) (by rw [hl]; split <;> omega) (full_ok L i hL hi) (fun h => ?_)
  have : ¬ i < L := by intro hh; rw [hl, if_pos hh] at h; omega
  simp [full, this, lastK]
theorem full_put (L i : Nat) (hL : 2 ≤ L ∧ L ≤ 32) (hi : i < 900) : putE (full L i) (L : Int) (D 16 (1 + (i : Int)) 0) = (0, full L (i + 1)) := by
  have hq := full_q L i hL hi
  have hx : evOK (D 16 (1 + (i : Int)) 0) = true := ev_D ep16 (by omega) (by omega)
  have hg : gapE (D 16 (1 + (i : Int)) 0) = some (G 16 (1 + (i : Int)) (1 + (i : Int))) := by simp [gapE]
  have hl := full_len L i hL.1
  by_cases h1 : i + 1 < L
  · rw [qp_room hq hx (by rw [hl, if_pos (by omega)]; omega)]
    rw [full, if_pos (by omega), full, if_pos h1, pre_succ]
  · by_cases h2 : i < L
    · rw [qp_last hq hx hg (by rw [hl, if_pos h2]; omega)]
      rw [full, if_pos h2, full, if_neg h1]
      obtain rfl : i = L - 1 := by omega
      rw [show L - 1 + 1 = L by omega, show (1 + ((L - 1 : Nat) : Int)) = (L : Int) by omega]
    · have hf : full L i = pre (L - 1) ++ [G 16 (L : Int) (i : Int)] := by rw [full, if_neg h2]
      rw [hf] at hq hl ⊢
      rw [qp_more hq hx hg (by rw [hl, if_neg h2])]
      rw [if_pos ⟨rfl, by show 1 + (i : Int) = (i : Int) + 1; omega⟩, full, if_neg (by omega)]
      simp; omega
theorem full_no (L i : Nat) (hL : 2 ≤ L ∧ L ≤ 32) (hi : L ≤ i ∧ i < 900) (s : Int) (hs : 1 ≤ s ∧ s ≤ 100) : putE (full L i) (L : Int) (D 32 s 0) = (6, []) := by
  have hq := full_q L i hL hi.2
  have hf : full L i = pre (L - 1) ++ [G 16 (L : Int) (i : Int)] := by rw [full, if_neg (by omega)]
  have hl := full_len L i hL.1
  rw [hf] at hq hl ⊢
  rw [qp_more (g := G 32 s s) hq (ev_D ep32 (by omega) (by omega)) (by simp [gapE]) (by rw [hl, if_neg (by omega)])]
  rw [if_neg (by simp)]
theorem full_no5 (L i : Nat) (hL : 2 ≤ L ∧ L ≤ 32) (hi : L ≤ i ∧ i < 900) : putE (full L i) (L : Int) ⟨5, 0, 0, 0, 0, 0⟩ = (6, []) := by
  refine qp_none (full_q L i hL hi.2) (by decide) (by decide) ?_
  rw [full_len L i hL.1, if_neg (by omega)]; omega
/-- One polled, one of another epoch put. -/
theorem full_next (L i : Nat) (hL : 2 ≤ L ∧ L ≤ 32) (hi : L ≤ i ∧ i < 900) (s : Int) (hs : 1 ≤ s ∧ s ≤ 100) : putE (full L i).tail (L : Int) (D 32 s 0) = (0, (full L i).tail ++ [G 32 s s]) ∧ (full L i).tail.length = L - 1 ∧ (full L i).tail[L - 2]? = some (G 16 (L : Int) (i : Int)) := by
  have hl := full_len L i hL.1
  rw [if_neg (by omega)] at hl
  have hf : full L i = pre (L - 1) ++ [G 16 (L : Int) (i : Int)] := by rw [full, if_neg (by omega)]
  refine ⟨qp_last (g := G 32 s s) (q_of (by omega) (by simp [hl]) (fun x hx => full_ok L i hL hi.2 x (List.mem_of_mem_tail hx)) (fun h => by simp [hl] at h; omega)) (ev_D ep32 (by omega) (by omega)) (by simp [gapE]) (by simp [hl]; omega), by simp [hl], ?_⟩
  rw [List.getElem?_tail, hf, List.getElem?_append_right (by rw [pre_len]; omega), pre_len, show L - 2 + 1 - (L - 1) = 0 by omega]
  rfl
end Go.Proofs.Ytjafaefiigingaa.QA
