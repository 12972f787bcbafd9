import Derived.Test.YtgjacdfiilcaaaaWS
set_option linter.unusedSimpArgs false
set_option linter.unusedVariables false
namespace Go.Proofs.Ytgjacdfiilcaaaa.CA
open Go Go.Proofs.YtgjacdfiilcaaaaR Go.Proofs.Ytgjacdfiilcaaaa.IW Go.Proofs.Ytgjacdfiilcaaaa.CZ Go.Proofs.Ytgjacdfiilcaaaa.WZ
open Go.Proofs.Ytgjacdfiilcaaaa.MA (Mg eM aM msgOK)
set_option maxRecDepth 100000
set_option maxHeartbeats 4000000
theorem dec_len {b : List Int} (hb : Bs b) : (decM b).1.pa.length < 1000 ∧ (decM b).1.td.length < 1000 := by
  unfold decM
  split
  · exact zM_len
  · split
    · exact zM_len
    · have ho : Bs (opn b).1 := by
        rcases opn_c b with ⟨_, c1⟩ | ⟨_, _, c1⟩ | ⟨_, _, c1⟩ <;> rw [c1]
        · exact fun x hx => by cases hx
        · exact Bs_take hb _
        · exact fun x hx => by cases hx
      split
      · exact zM_len
      · rename_i ns pa td h
        have := rd_len ho h
        split
        · exact ⟨by rw [mk_pa]; omega, by rw [mk_td]; omega⟩
        · exact zM_len
theorem e4 (m : Mg) (b : List Int) (hb : Bs b) : TT 5000 14 4 [aM m, .one (rU b)] = some (bV true, []) := by
  have h12 := MA.e12 5000 12 m
  have hw := w20
  rw [t4, F_ev rfl]
  cases hh : MA.heavyB m with
  | true =>
    rw [hh] at h12
    simp only [h12, List.length_map, j4, b4, q4, qq, ww, List.append_nil, List.all_nil, List.all_cons, true_or, or_true, false_or, or_false, List.contains_nil, List.isEmpty_nil, List.take_length, List.getElem?_cons_zero, List.getElem?_cons_succ, List.set_cons_zero, List.set_cons_succ, List.replicate, Option.isNone_none, List.map_append, List.length_append, List.all_nil, List.contains_cons, Nat.reduceBEq, List.map_cons, List.map_nil, List.cons_append, List.nil_append, Option.getD_some, Option.getD_none, Option.map_some, Option.map_none, Option.bind_some, Nat.reduceAdd, Nat.reduceMul, Nat.reduceDiv, Nat.reduceEqDiff, Nat.reduceLeDiff, Nat.reduceLT, Int.reduceEq, Int.reduceNe, Int.reduceLT, Int.reduceLE, Int.reduceAdd, Int.reduceSub, Int.reduceMul, Int.reduceNeg, Int.reduceToNat, Int.reducePow, Nat.reducePow, not_false_eq_true, not_true_eq_false, reduceCtorEq, reduceIte, if_true, if_false, Bool.true_eq_false, Bool.false_eq_true, List.length_cons, List.length_nil, and_self, true_and, and_true, List.drop_zero, List.take_succ_cons, List.take_zero, List.drop_succ_cons]
  | false =>
  rw [hh] at h12
  have hml : m.pa.length < 1000 ∧ m.td.length < 1000 := by
    simp only [MA.heavyB, Bool.or_eq_false_iff, decide_eq_false_iff_not] at hh
    omega
  cases hL : decide ((200 : Int) < (b.length : Int)) with
  | true => simp only [h12, hL, List.length_map, j4, b4, q4, qq, ww, List.append_nil, List.all_nil, List.all_cons, true_or, or_true, false_or, or_false, List.contains_nil, List.isEmpty_nil, List.take_length, List.getElem?_cons_zero, List.getElem?_cons_succ, List.set_cons_zero, List.set_cons_succ, List.replicate, Option.isNone_none, List.map_append, List.length_append, List.all_nil, List.contains_cons, Nat.reduceBEq, List.map_cons, List.map_nil, List.cons_append, List.nil_append, Option.getD_some, Option.getD_none, Option.map_some, Option.map_none, Option.bind_some, Nat.reduceAdd, Nat.reduceMul, Nat.reduceDiv, Nat.reduceEqDiff, Nat.reduceLeDiff, Nat.reduceLT, Int.reduceEq, Int.reduceNe, Int.reduceLT, Int.reduceLE, Int.reduceAdd, Int.reduceSub, Int.reduceMul, Int.reduceNeg, Int.reduceToNat, Int.reducePow, Nat.reducePow, not_false_eq_true, not_true_eq_false, reduceCtorEq, reduceIte, if_true, if_false, Bool.true_eq_false, Bool.false_eq_true, List.length_cons, List.length_nil, and_self, true_and, and_true, List.drop_zero, List.take_succ_cons, List.take_zero, List.drop_succ_cons]
  | false =>
  have hl : b.length ≤ 200 := by simp at hL; omega
  have h13 := MA.e13 5000 11 m hml.1 hml.2
  have h14 := e14 5000 12 b (by omega)
  have h15 := e15a 2000 3 m hml.1 hml.2 (by omega)
  have h16 := e16a 2000 3 b hb (by omega) (by omega)
  have h17 := e17 2000 3 b hb (by omega)
  obtain ⟨d1, d2⟩ := dec_len hb
  have hff : decide ((decM b).2 = (decM b).2) = true := by simp
  have h18 := MA.e18 2000 11 (decM b).1 (decM b).1 d1 d2
  rw [show decide ((decM b).1 = (decM b).1) = true by simp] at h18
  have h18m := MA.e18 2000 11 m m hml.1 hml.2
  rw [show decide (m = m) = true by simp] at h18m
  have h10 := e10 5000 12 b b (by omega) (by omega)
  rw [show decide (b = b) = true by simp] at h10
  have h19 := MA.e19 2000 7 m hml.1 hml.2
  generalize (decM b).2 = D at *
  generalize (decM b).1 = M at *
  cases hm : msgOK m with
  | false =>
    rw [hm] at h19 h15
    rw [if_neg (by decide), if_neg (by decide)] at h15
    have h15' : ans (TT 5000 13 15 [aM m]) = some (.tup [.one (.row []), iV 5]) := h15
    simp only [h12, hL, h13, h14, h15', h16, h17, hff, h18, h18m, h10, h19, hw, takeU, List.length_map, List.length_nil, Nat.le_refl, Bool.not_true, Bool.not_false, j4, b4, q4, qq, ww, List.append_nil, List.all_nil, List.all_cons, true_or, or_true, false_or, or_false, List.contains_nil, List.isEmpty_nil, List.take_length, List.getElem?_cons_zero, List.getElem?_cons_succ, List.set_cons_zero, List.set_cons_succ, List.replicate, Option.isNone_none, List.map_append, List.length_append, List.all_nil, List.contains_cons, Nat.reduceBEq, List.map_cons, List.map_nil, List.cons_append, List.nil_append, Option.getD_some, Option.getD_none, Option.map_some, Option.map_none, Option.bind_some, Nat.reduceAdd, Nat.reduceMul, Nat.reduceDiv, Nat.reduceEqDiff, Nat.reduceLeDiff, Nat.reduceLT, Int.reduceEq, Int.reduceNe, Int.reduceLT, Int.reduceLE, Int.reduceAdd, Int.reduceSub, Int.reduceMul, Int.reduceNeg, Int.reduceToNat, Int.reducePow, Nat.reducePow, not_false_eq_true, not_true_eq_false, reduceCtorEq, reduceIte, if_true, if_false, Bool.true_eq_false, Bool.false_eq_true, List.length_cons, List.length_nil, and_self, true_and, and_true, List.drop_zero, List.take_succ_cons, List.take_zero, List.drop_succ_cons]
  | true =>
    rw [hm] at h19 h15
    rw [if_pos rfl, if_pos rfl] at h15
    have h21 := e21 5000 10 m hm (by omega)
    have rr := msg_rg hm
    have h10s := e10 5000 12 (sel (encM m)) (sel (encM m)) (by rw [sel_len, encM_len]; omega) (by rw [sel_len, encM_len]; omega)
    rw [show decide (sel (encM m) = sel (encM m)) = true by simp] at h10s
    generalize sel (encM m) = Q at *
    simp only [h12, hL, h13, h14, h15, h16, h17, hff, h18, h18m, h10, h10s, h19, h21, hw, takeU, List.length_map, List.length_nil, Nat.le_refl, Bool.not_true, Bool.not_false, j4, b4, q4, qq, ww, List.append_nil, List.all_nil, List.all_cons, true_or, or_true, false_or, or_false, List.contains_nil, List.isEmpty_nil, List.take_length, List.getElem?_cons_zero, List.getElem?_cons_succ, List.set_cons_zero, List.set_cons_succ, List.replicate, Option.isNone_none, List.map_append, List.length_append, List.all_nil, List.contains_cons, Nat.reduceBEq, List.map_cons, List.map_nil, List.cons_append, List.nil_append, Option.getD_some, Option.getD_none, Option.map_some, Option.map_none, Option.bind_some, Nat.reduceAdd, Nat.reduceMul, Nat.reduceDiv, Nat.reduceEqDiff, Nat.reduceLeDiff, Nat.reduceLT, Int.reduceEq, Int.reduceNe, Int.reduceLT, Int.reduceLE, Int.reduceAdd, Int.reduceSub, Int.reduceMul, Int.reduceNeg, Int.reduceToNat, Int.reducePow, Nat.reducePow, not_false_eq_true, not_true_eq_false, reduceCtorEq, reduceIte, if_true, if_false, Bool.true_eq_false, Bool.false_eq_true, List.length_cons, List.length_nil, and_self, true_and, and_true, List.drop_zero, List.take_succ_cons, List.take_zero, List.drop_succ_cons]
theorem e4r {A : Prop} (m : Mg) (b : List Int) (w0_ : A) (w1_ : b.length * 1 ≤ 140737488351232 ∧ ∀ y ∈ b, (Lit.int .u8 y).wf = true) : TT 5000 14 4 [aM m, .one (rU b)] = some (bV true, []) := e4 m b fun y hy => u8w (w1_.2 y hy)
end Go.Proofs.Ytgjacdfiilcaaaa.CA
