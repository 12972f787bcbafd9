import Derived.Test.YtgjacdfiilcaaaaWC
import Derived.Test.YtgjacdfiilcaaaaMF
set_option linter.unusedSimpArgs false
set_option linter.unusedVariables false
namespace Go.Proofs.Ytgjacdfiilcaaaa.CA
open Go Go.Proofs.YtgjacdfiilcaaaaR Go.Proofs.Ytgjacdfiilcaaaa.IW Go.Proofs.Ytgjacdfiilcaaaa.CZ Go.Proofs.Ytgjacdfiilcaaaa.WZ
open Go.Proofs.Ytgjacdfiilcaaaa.MA (Mg eM aM msgOK)
set_option maxRecDepth 100000
set_option maxHeartbeats 4000000
theorem selfI (l : List Int) : (l.map eI).all selfs = true := by simp [selfs, V.self]
/-- What Decode tells. -/
def decM (b : List Int) : Mg × Int :=
  if 80 < b.length then (zM, 2) else if (opn b).2 ≠ 0 then (zM, (opn b).2) else match rdM (opn b).1 with
    | none => (zM, 3)
    | some (ns, pa, td) => if msgOK (mkM ns pa td) = true then (mkM ns pa td, 0) else (zM, 5)
abbrev dcE (e : Int) : Option (S × Hp) := some (.tup [.agg (eM zM), iV e], [])
abbrev dcO (m : Mg) : Option (S × Hp) := some (.tup [.agg (aO m 14 15), iV 0], [(14, .rows 3 1 (m.pa.map eI)), (15, .rows 3 1 (m.td.map eI))])
def dcA (p : Mg × Int) : Option (S × Hp) := if p.2 = 0 then dcO p.1 else dcE p.2
theorem opn_c (b : List Int) : (b.length < 4 ∧ opn b = ([], 2)) ∨ (4 ≤ b.length ∧ sealed b = true ∧ opn b = (b.take (b.length - 4), 0)) ∨ (4 ≤ b.length ∧ ¬ sealed b = true ∧ opn b = ([], 4)) := by
  unfold opn
  by_cases h : b.length < 4
  · exact .inl ⟨h, if_pos h⟩
  · rw [if_neg h]
    by_cases hs : sealed b = true
    · exact .inr (.inl ⟨by omega, hs, if_pos hs⟩)
    · exact .inr (.inr ⟨by omega, hs, if_neg hs⟩)
theorem rd_len {b ns pa td : List Int} (hb : Bs b) (h : rdM b = some (ns, pa, td)) : pa.length ≤ 255 ∧ td.length ≤ 255 := ⟨(rd_inv hb h).1.lp, (rd_inv hb h).1.lt⟩
theorem e16 (N d : Nat) (b : List Int) (hb : Bs b) (hl : b.length < 1000000) (hN : b.length < N) : TT (N + 3000) (d + 10) 16 [.one (rU b)] = dcA (decM b) := by
  rw [t16, F_ev rfl]
  cases hL : decide ((b.length : Int) > 80) with
  | true =>
    have : 80 < b.length := by simp at hL; omega
    rw [show decM b = (zM, 2) by rw [decM, if_pos this]]
    simp only [hL, List.length_map, j16, b16, q16, qq, ww, List.append_nil, List.all_nil, List.all_cons, true_or, or_true, false_or, or_false, List.contains_nil, List.isEmpty_nil, List.take_length, List.getElem?_cons_zero, List.getElem?_cons_succ, List.set_cons_zero, List.set_cons_succ, List.replicate, Option.isNone_none, List.map_append, List.length_append, List.all_nil, List.contains_cons, Nat.reduceBEq, List.map_cons, List.map_nil, List.cons_append, List.nil_append, Option.getD_some, Option.getD_none, Option.map_some, Option.map_none, Option.bind_some, Nat.reduceAdd, Nat.reduceMul, Nat.reduceDiv, Nat.reduceEqDiff, Nat.reduceLeDiff, Nat.reduceLT, Int.reduceEq, Int.reduceNe, Int.reduceLT, Int.reduceLE, Int.reduceAdd, Int.reduceSub, Int.reduceMul, Int.reduceNeg, Int.reduceToNat, Int.reducePow, Nat.reducePow, not_false_eq_true, not_true_eq_false, reduceCtorEq, reduceIte, if_true, if_false, Bool.true_eq_false, Bool.false_eq_true, List.length_cons, List.length_nil, and_self, true_and, and_true, List.drop_zero, List.take_succ_cons, List.take_zero, List.drop_succ_cons]
    rfl
  | false =>
    have hL' : ¬ 80 < b.length := by simp at hL; omega
    have h9 := fun d => e9 (N + 3000) d b hb (by omega) (by omega) hl
    rcases opn_c b with ⟨c0, c1⟩ | ⟨c0, cs, c1⟩ | ⟨c0, cs, c1⟩
    · rw [c1] at h9
      rw [show decM b = (zM, 2) by rw [decM, if_neg hL', c1]; rfl]
      simp only [hL, h9, List.length_map, List.length_nil, j16, b16, q16, qq, ww, List.append_nil, List.all_nil, List.all_cons, true_or, or_true, false_or, or_false, List.contains_nil, List.isEmpty_nil, List.take_length, List.getElem?_cons_zero, List.getElem?_cons_succ, List.set_cons_zero, List.set_cons_succ, List.replicate, Option.isNone_none, List.map_append, List.length_append, List.all_nil, List.contains_cons, Nat.reduceBEq, List.map_cons, List.map_nil, List.cons_append, List.nil_append, Option.getD_some, Option.getD_none, Option.map_some, Option.map_none, Option.bind_some, Nat.reduceAdd, Nat.reduceMul, Nat.reduceDiv, Nat.reduceEqDiff, Nat.reduceLeDiff, Nat.reduceLT, Int.reduceEq, Int.reduceNe, Int.reduceLT, Int.reduceLE, Int.reduceAdd, Int.reduceSub, Int.reduceMul, Int.reduceNeg, Int.reduceToNat, Int.reducePow, Nat.reducePow, not_false_eq_true, not_true_eq_false, reduceCtorEq, reduceIte, if_true, if_false, Bool.true_eq_false, Bool.false_eq_true, List.length_cons, List.length_nil, and_self, true_and, and_true, List.drop_zero, List.take_succ_cons, List.take_zero, List.drop_succ_cons]
      rfl
    · rw [c1] at h9
      have hxl : (b.take (b.length - 4)).length < 1000000 := by rw [List.length_take]; omega
      have hxB := Bs_take hb (b.length - 4)
      have hd : decM b = match rdM (b.take (b.length - 4)) with
        | none => (zM, 3)
        | some (ns, pa, td) => if msgOK (mkM ns pa td) = true then (mkM ns pa td, 0) else (zM, 5) := by
        rw [decM, if_neg hL', c1]; rfl
      rw [hd]
      generalize b.take (b.length - 4) = x at *
      have h33 := fun d => e33 (N + 3000) d x hxB (by omega) hxl
      cases hr : rdM x with
      | none =>
        rw [hr] at h33
        simp only [rdA] at h33
        simp only [hL, h9, h33, selfU, takeU, List.length_map, Nat.le_refl, j16, b16, q16, qq, ww, List.append_nil, List.all_nil, List.all_cons, true_or, or_true, false_or, or_false, List.contains_nil, List.isEmpty_nil, List.take_length, List.getElem?_cons_zero, List.getElem?_cons_succ, List.set_cons_zero, List.set_cons_succ, List.replicate, Option.isNone_none, List.map_append, List.length_append, List.all_nil, List.contains_cons, Nat.reduceBEq, List.map_cons, List.map_nil, List.cons_append, List.nil_append, Option.getD_some, Option.getD_none, Option.map_some, Option.map_none, Option.bind_some, Nat.reduceAdd, Nat.reduceMul, Nat.reduceDiv, Nat.reduceEqDiff, Nat.reduceLeDiff, Nat.reduceLT, Int.reduceEq, Int.reduceNe, Int.reduceLT, Int.reduceLE, Int.reduceAdd, Int.reduceSub, Int.reduceMul, Int.reduceNeg, Int.reduceToNat, Int.reducePow, Nat.reducePow, not_false_eq_true, not_true_eq_false, reduceCtorEq, reduceIte, if_true, if_false, Bool.true_eq_false, Bool.false_eq_true, List.length_cons, List.length_nil, and_self, true_and, and_true, List.drop_zero, List.take_succ_cons, List.take_zero, List.drop_succ_cons]
        rfl
      | some p =>
        obtain ⟨ns, pa, td⟩ := p
        obtain ⟨l1, l2⟩ := rd_len hxB hr
        rw [hr] at h33
        simp only [rdA] at h33
        have h29 := fun d => MA.e29 N d (mkM ns pa td) (by rw [mk_pa]; omega) (by rw [mk_td]; omega)
        have hpa := mk_pa ns pa td
        have htd := mk_td ns pa td
        dsimp only
        generalize mkM ns pa td = m at *
        subst hpa
        subst htd
        cases hm : msgOK m with
        | true =>
          rw [if_pos rfl]
          simp only [hL, h9, h33, h29, hm, selfU, selfI, takeU, takeI, List.length_map, Nat.le_refl, j16, b16, q16, qq, ww, List.append_nil, List.all_nil, List.all_cons, true_or, or_true, false_or, or_false, List.contains_nil, List.isEmpty_nil, List.take_length, List.getElem?_cons_zero, List.getElem?_cons_succ, List.set_cons_zero, List.set_cons_succ, List.replicate, Option.isNone_none, List.map_append, List.length_append, List.all_nil, List.contains_cons, Nat.reduceBEq, List.map_cons, List.map_nil, List.cons_append, List.nil_append, Option.getD_some, Option.getD_none, Option.map_some, Option.map_none, Option.bind_some, Nat.reduceAdd, Nat.reduceMul, Nat.reduceDiv, Nat.reduceEqDiff, Nat.reduceLeDiff, Nat.reduceLT, Int.reduceEq, Int.reduceNe, Int.reduceLT, Int.reduceLE, Int.reduceAdd, Int.reduceSub, Int.reduceMul, Int.reduceNeg, Int.reduceToNat, Int.reducePow, Nat.reducePow, not_false_eq_true, not_true_eq_false, reduceCtorEq, reduceIte, if_true, if_false, Bool.true_eq_false, Bool.false_eq_true, List.length_cons, List.length_nil, and_self, true_and, and_true, List.drop_zero, List.take_succ_cons, List.take_zero, List.drop_succ_cons]
          rfl
        | false =>
          rw [if_neg (by decide)]
          simp only [hL, h9, h33, h29, hm, selfU, selfI, takeU, takeI, List.length_map, Nat.le_refl, j16, b16, q16, qq, ww, List.append_nil, List.all_nil, List.all_cons, true_or, or_true, false_or, or_false, List.contains_nil, List.isEmpty_nil, List.take_length, List.getElem?_cons_zero, List.getElem?_cons_succ, List.set_cons_zero, List.set_cons_succ, List.replicate, Option.isNone_none, List.map_append, List.length_append, List.all_nil, List.contains_cons, Nat.reduceBEq, List.map_cons, List.map_nil, List.cons_append, List.nil_append, Option.getD_some, Option.getD_none, Option.map_some, Option.map_none, Option.bind_some, Nat.reduceAdd, Nat.reduceMul, Nat.reduceDiv, Nat.reduceEqDiff, Nat.reduceLeDiff, Nat.reduceLT, Int.reduceEq, Int.reduceNe, Int.reduceLT, Int.reduceLE, Int.reduceAdd, Int.reduceSub, Int.reduceMul, Int.reduceNeg, Int.reduceToNat, Int.reducePow, Nat.reducePow, not_false_eq_true, not_true_eq_false, reduceCtorEq, reduceIte, if_true, if_false, Bool.true_eq_false, Bool.false_eq_true, List.length_cons, List.length_nil, and_self, true_and, and_true, List.drop_zero, List.take_succ_cons, List.take_zero, List.drop_succ_cons]
          rfl
    · rw [c1] at h9
      rw [show decM b = (zM, 4) by rw [decM, if_neg hL', c1]; rfl]
      simp only [hL, h9, List.length_map, List.length_nil, j16, b16, q16, qq, ww, List.append_nil, List.all_nil, List.all_cons, true_or, or_true, false_or, or_false, List.contains_nil, List.isEmpty_nil, List.take_length, List.getElem?_cons_zero, List.getElem?_cons_succ, List.set_cons_zero, List.set_cons_succ, List.replicate, Option.isNone_none, List.map_append, List.length_append, List.all_nil, List.contains_cons, Nat.reduceBEq, List.map_cons, List.map_nil, List.cons_append, List.nil_append, Option.getD_some, Option.getD_none, Option.map_some, Option.map_none, Option.bind_some, Nat.reduceAdd, Nat.reduceMul, Nat.reduceDiv, Nat.reduceEqDiff, Nat.reduceLeDiff, Nat.reduceLT, Int.reduceEq, Int.reduceNe, Int.reduceLT, Int.reduceLE, Int.reduceAdd, Int.reduceSub, Int.reduceMul, Int.reduceNeg, Int.reduceToNat, Int.reducePow, Nat.reducePow, not_false_eq_true, not_true_eq_false, reduceCtorEq, reduceIte, if_true, if_false, Bool.true_eq_false, Bool.false_eq_true, List.length_cons, List.length_nil, and_self, true_and, and_true, List.drop_zero, List.take_succ_cons, List.take_zero, List.drop_succ_cons]
      rfl
theorem e16a (N d : Nat) (b : List Int) (hb : Bs b) (hl : b.length < 1000000) (hN : b.length < N) : ans (TT (N + 3000) (d + 10) 16 [.one (rU b)]) = some (.tup [aM (decM b).1, iV (decM b).2]) := by
  rw [e16 N d b hb hl hN, dcA]
  have h : (decM b).2 = 0 ∨ (¬ (decM b).2 = 0 ∧ (decM b).1 = zM) := by
    unfold decM
    split
    · exact .inr ⟨by decide, rfl⟩
    · split
      · rename_i h; exact .inr ⟨h, rfl⟩
      · split
        · exact .inr ⟨by decide, rfl⟩
        · split
          · exact .inl rfl
          · exact .inr ⟨by decide, rfl⟩
  rcases h with h | ⟨h, h2⟩
  · rw [if_pos h, h]
    simp only [takeI, List.length_map, Nat.le_refl, qq, ww, List.append_nil, List.all_nil, List.all_cons, true_or, or_true, false_or, or_false, List.contains_nil, List.isEmpty_nil, List.take_length, List.getElem?_cons_zero, List.getElem?_cons_succ, List.set_cons_zero, List.set_cons_succ, List.replicate, Option.isNone_none, List.map_append, List.length_append, List.all_nil, List.contains_cons, Nat.reduceBEq, List.map_cons, List.map_nil, List.cons_append, List.nil_append, Option.getD_some, Option.getD_none, Option.map_some, Option.map_none, Option.bind_some, Nat.reduceAdd, Nat.reduceMul, Nat.reduceDiv, Nat.reduceEqDiff, Nat.reduceLeDiff, Nat.reduceLT, Int.reduceEq, Int.reduceNe, Int.reduceLT, Int.reduceLE, Int.reduceAdd, Int.reduceSub, Int.reduceMul, Int.reduceNeg, Int.reduceToNat, Int.reducePow, Nat.reducePow, not_false_eq_true, not_true_eq_false, reduceCtorEq, reduceIte, if_true, if_false, Bool.true_eq_false, Bool.false_eq_true, List.length_cons, List.length_nil, and_self, true_and, and_true, List.drop_zero, List.take_succ_cons, List.take_zero, List.drop_succ_cons]
  · rw [if_neg h, h2]
    simp only [qq, ww, List.append_nil, List.all_nil, List.all_cons, true_or, or_true, false_or, or_false, List.contains_nil, List.isEmpty_nil, List.take_length, List.getElem?_cons_zero, List.getElem?_cons_succ, List.set_cons_zero, List.set_cons_succ, List.replicate, Option.isNone_none, List.map_append, List.length_append, List.all_nil, List.contains_cons, Nat.reduceBEq, List.map_cons, List.map_nil, List.cons_append, List.nil_append, Option.getD_some, Option.getD_none, Option.map_some, Option.map_none, Option.bind_some, Nat.reduceAdd, Nat.reduceMul, Nat.reduceDiv, Nat.reduceEqDiff, Nat.reduceLeDiff, Nat.reduceLT, Int.reduceEq, Int.reduceNe, Int.reduceLT, Int.reduceLE, Int.reduceAdd, Int.reduceSub, Int.reduceMul, Int.reduceNeg, Int.reduceToNat, Int.reducePow, Nat.reducePow, not_false_eq_true, not_true_eq_false, reduceCtorEq, reduceIte, if_true, if_false, Bool.true_eq_false, Bool.false_eq_true, List.length_cons, List.length_nil, and_self, true_and, and_true, List.drop_zero, List.take_succ_cons, List.take_zero, List.drop_succ_cons]
end Go.Proofs.Ytgjacdfiilcaaaa.CA
