import Derived.Test.YtgjacdfiilcaaaaWB
set_option linter.unusedSimpArgs false
set_option linter.unusedVariables false
namespace Go.Proofs.Ytgjacdfiilcaaaa.CA
open Go Go.Proofs.YtgjacdfiilcaaaaR Go.Proofs.Ytgjacdfiilcaaaa.IW Go.Proofs.Ytgjacdfiilcaaaa.CZ Go.Proofs.Ytgjacdfiilcaaaa.WZ
open Go.Proofs.Ytgjacdfiilcaaaa.MA (Mg eM aM)
set_option maxRecDepth 100000
set_option maxHeartbeats 4000000
def szI : List Int := [1, 1, 1, 1, 4, 4, 8, 4, 4, 4, 1, 4, 4, 1]
abbrev hR (el e : Nat) (xs : List (List V)) : S := .tup [.one (.ref el e 0), .one (.row xs)]
theorem e31 (N d : Nat) : TT N (d + 1) 31 [] = some (.one (.sl 0 0 14), [(0, .rows 3 1 (szI.map eI))]) := by kernel_rfl
/-- A message out of its numbers and lists. -/
def mkM : List Int → List Int → List Int → Mg
  | [k, f, t, tp, fi, ti, e, s, l, v, nd, ic, c, h], pa, td => ⟨k, f, fi, t, ti, tp, e, s, l, v, nd, ic, c, h, pa, td⟩
  | _, pa, td => ⟨0, 0, 0, 0, 0, 0, 0, 0, 0, 0, 0, 0, 0, 0, pa, td⟩
abbrev zM : Mg := ⟨0, 0, 0, 0, 0, 0, 0, 0, 0, 0, 0, 0, 0, 0, [], []⟩
abbrev aO (m : Mg) (p q : Nat) : List V := [.int .i64 m.k, .int .i64 m.f, .int .i64 m.fi, .int .i64 m.t, .int .i64 m.ti, .int .i64 m.tp, .int .i64 m.e, .int .i64 m.s, .int .i64 m.l, .int .i64 m.v, .int .i64 m.nd, .int .i64 m.ic, .int .i64 m.c, .int .i64 m.h, .sl p 0 m.pa.length, .sl q 0 m.td.length]
theorem e55 (N d : Nat) (ns : List Int) (hn : ns.length = 14) (pa td : List Int) : TT N (d + 1) 55 [.one (.sl 0 0 14), .one (.sl 1 0 pa.length), .one (.sl 2 0 td.length), .tup [hR 3 1 (ns.map eI), hR 3 1 (pa.map eI), hR 3 1 (td.map eI)]] = some (.agg (aO (mkM ns pa td) 1 2), [(0, .rows 3 1 (ns.map eI)), (1, .rows 3 1 (pa.map eI)), (2, .rows 3 1 (td.map eI))]) := by
  match ns, hn with
  | [k, f, t, tp, fi, ti, e, s, l, v, nd, ic, c, h], _ =>
    rw [t55, F_evo rfl rfl (by simp)]
    simp only [List.map_cons, List.map_nil, mkM, j55, b55, q55, qq, ww, List.append_nil, List.all_nil, List.all_cons, true_or, or_true, false_or, or_false, List.contains_nil, List.isEmpty_nil, List.take_length, List.getElem?_cons_zero, List.getElem?_cons_succ, List.set_cons_zero, List.set_cons_succ, List.replicate, Option.isNone_none, List.map_append, List.length_append, List.all_nil, List.contains_cons, Nat.reduceBEq, List.map_cons, List.map_nil, List.cons_append, List.nil_append, Option.getD_some, Option.getD_none, Option.map_some, Option.map_none, Option.bind_some, Nat.reduceAdd, Nat.reduceMul, Nat.reduceDiv, Nat.reduceEqDiff, Nat.reduceLeDiff, Nat.reduceLT, Int.reduceEq, Int.reduceNe, Int.reduceLT, Int.reduceLE, Int.reduceAdd, Int.reduceSub, Int.reduceMul, Int.reduceNeg, Int.reduceToNat, Int.reducePow, Nat.reducePow, not_false_eq_true, not_true_eq_false, reduceCtorEq, reduceIte, if_true, if_false, Bool.true_eq_false, Bool.false_eq_true, List.length_cons, List.length_nil, and_self, true_and, and_true, List.drop_zero, List.take_succ_cons, List.take_zero, List.drop_succ_cons]
    try rfl
theorem zip14 : ∀ i : Nat, i < 14 → ∃ s : Nat, szs[i]? = some s ∧ szI[i]? = some (s : Int) ∧ (s = 1 ∨ s = 4 ∨ s = 8) ∧ szs.drop i = s :: szs.drop (i + 1) := by
  intro i hi
  match i, hi with
  | 0, _ | 1, _ | 2, _ | 3, _ | 10, _ | 13, _ => exact ⟨1, rfl, rfl, by omega, rfl⟩
  | 4, _ | 5, _ | 7, _ | 8, _ | 9, _ | 11, _ | 12, _ => exact ⟨4, rfl, rfl, by omega, rfl⟩
  | 6, _ => exact ⟨8, rfl, rfl, by omega, rfl⟩
theorem decL_drop {b l r : List Int} {at_ : Nat} (hb : Bs b) (ha : at_ ≤ b.length) (h : decL (b.drop at_) = some (l, r)) : r = b.drop (at_ + 1 + l.length) ∧ at_ + 1 + l.length ≤ b.length := by
  obtain ⟨h1, h2, h3⟩ := decL_inv (Bs_drop hb at_) h
  have h4 := congrArg List.length h3
  rw [List.length_drop, List.length_append] at h4
  have h5 : (encL l).length = 1 + l.length := by simp [encL]; omega
  refine ⟨?_, by omega⟩
  have h6 : b.drop (at_ + 1 + l.length) = (b.drop at_).drop (1 + l.length) := by rw [List.drop_drop, Nat.add_assoc]
  rw [h6, h3, ← h5, List.drop_left' rfl]
theorem d3a {ns r : List Int} (h : decL r = none) : dec3 (some (ns, r)) = none := by simp only [dec3, h]
theorem d3b {ns r pa r2 : List Int} (h : decL r = some (pa, r2)) (h2 : decL r2 = none) : dec3 (some (ns, r)) = none := by simp only [dec3, h, h2]
theorem d3c {ns r pa r2 td : List Int} (h : decL r = some (pa, r2)) (h2 : decL r2 = some (td, [])) : dec3 (some (ns, r)) = some (ns, pa, td) := by simp only [dec3, h, h2]
theorem d3d {ns r pa r2 td r3 : List Int} (h : decL r = some (pa, r2)) (h2 : decL r2 = some (td, r3)) (h3 : r3 ≠ []) : dec3 (some (ns, r)) = none := by
  simp only [dec3, h, h2]
  cases r3 with
  | nil => exact absurd rfl h3
  | cons _ _ => rfl
/-- What is read. -/
def rdA : Option (List Int × List Int × List Int) → Option (S × Hp)
  | none => some (.tup [.agg (eM zM), bV false], [])
  | some (ns, pa, td) => some (.tup [.agg (aO (mkM ns pa td) 14 15), bV true], [(14, .rows 3 1 (pa.map eI)), (15, .rows 3 1 (td.map eI))])
theorem mk_pa (ns pa td : List Int) : (mkM ns pa td).pa = pa := by unfold mkM; split <;> rfl
theorem mk_td (ns pa td : List Int) : (mkM ns pa td).td = td := by unfold mkM; split <;> rfl
theorem takeI (l : List Int) : List.take l.length (l.map eI) = l.map eI := List.take_of_length_le (by simp)
theorem e33 (N d : Nat) (b : List Int) (hb : Bs b) (hN : 256 < N) (hl : b.length < 1000000) : TT N (d + 3) 33 [.one (rU b)] = rdA (rdM b) := by
  have h31 := fun d => e31 N d
  rw [t33, F_ev rfl]
  simp only [h31, show List.take 14 (szI.map eI) = szI.map eI from rfl, show szI.length = 14 from rfl, Nat.le_refl, List.length_map, j33, b33, q33, qq, ww, List.append_nil, List.all_nil, List.all_cons, true_or, or_true, false_or, or_false, List.contains_nil, List.isEmpty_nil, List.take_length, List.getElem?_cons_zero, List.getElem?_cons_succ, List.set_cons_zero, List.set_cons_succ, List.replicate, Option.isNone_none, List.map_append, List.length_append, List.all_nil, List.contains_cons, Nat.reduceBEq, List.map_cons, List.map_nil, List.cons_append, List.nil_append, Option.getD_some, Option.getD_none, Option.map_some, Option.map_none, Option.bind_some, Nat.reduceAdd, Nat.reduceMul, Nat.reduceDiv, Nat.reduceEqDiff, Nat.reduceLeDiff, Nat.reduceLT, Int.reduceEq, Int.reduceNe, Int.reduceLT, Int.reduceLE, Int.reduceAdd, Int.reduceSub, Int.reduceMul, Int.reduceNeg, Int.reduceToNat, Int.reducePow, Nat.reducePow, not_false_eq_true, not_true_eq_false, reduceCtorEq, reduceIte, if_true, if_false, Bool.true_eq_false, Bool.false_eq_true, List.length_cons, List.length_nil, and_self, true_and, and_true, List.drop_zero, List.take_succ_cons, List.take_zero, List.drop_succ_cons]
  refine loopI (K := fun o => fin _ (aft _ _ _ o)) (I := fun i s => ∃ ns at_, s = ⟨[(0, .one (rU b)), (2, .one (.ref 128 0 0)), (4, .one (.sl 256 0 i)), (5, iV (at_ : Nat)), (14, .one (rI szI)), (15, iV 14), (16, iV i)], [(128, .box (eM zM)), (256, .rows 3 1 (ns.map eI))]⟩ ∧ ns.length = i ∧ at_ ≤ b.length ∧ decN ns (szs.drop i) (b.drop at_) = decN [] szs b) _ 14 ?hr 14 0 N _ ⟨[(0, .one (rU b)), (2, .one (.ref 128 0 0)), (4, .one (.sl 256 0 0)), (5, iV 0), (14, .one (rI szI)), (15, iV 14), (16, iV 0)], [(128, .box (eM zM)), (256, .rows 3 1 [])]⟩ (by omega) (by omega) ?hk ⟨[], 0, rfl, rfl, Nat.zero_le _, rfl⟩
  case hk => simp only [gcK, lowB, Nat.reduceLeDiff, Nat.reduceBEq, List.contains_nil, List.contains_cons, Bool.or_false, Bool.false_or, Bool.false_eq_true, if_false, Bool.true_and, Bool.and_true, pickL, look_hit, look_miss, look_end, slMent, hpMent, S.ment, S.ment.smt, ments, V.ment, List.append_nil, List.nil_append, List.cons_append, List.all_nil, List.all_cons, Option.isSome_some, Bool.and_self, if_true, reduceIte, Nat.reduceEqDiff, not_false_eq_true, reduceCtorEq, Nat.reduceMul, Nat.reduceAdd]; rfl
  case hr =>
    rintro i q s hi ⟨ns, at_, rfl, hnl, ha, hdec⟩ ih
    (try dsimp only)
    by_cases hlt : i < 14
    · obtain ⟨s, hs1, hs2, hs3, hs4⟩ := zip14 i hlt
      have g1 : decide ((i : Int) < 14) = true := by simp; omega
      have hgs : (szI.map eI)[i]? = some (eI (s : Int)) := by rw [List.getElem?_map, hs2]; rfl
      have hbi : 0 ≤ (i : Int) ∧ (i : Int) < 14 := by omega
      have h23 := fun d => e23 N d b at_ s hb hs3 ha (by omega) hl
      rw [hs4] at hdec
      by_cases c1 : (b.drop at_).length < s
      · rw [getA, if_pos c1] at h23
        rw [decN, if_pos (.inl c1)] at hdec
        rw [show rdA (rdM b) = rdA none by rw [rdM, ← hdec]; rfl]
        simp only [g1, hgs, hbi.1, hbi.2, h23, show szI.length = 14 from rfl, List.length_map, Int.toNat_natCast, j33, b33, q33, qq, ww, List.append_nil, List.all_nil, List.all_cons, true_or, or_true, false_or, or_false, List.contains_nil, List.isEmpty_nil, List.take_length, List.getElem?_cons_zero, List.getElem?_cons_succ, List.set_cons_zero, List.set_cons_succ, List.replicate, Option.isNone_none, List.map_append, List.length_append, List.all_nil, List.contains_cons, Nat.reduceBEq, List.map_cons, List.map_nil, List.cons_append, List.nil_append, Option.getD_some, Option.getD_none, Option.map_some, Option.map_none, Option.bind_some, Nat.reduceAdd, Nat.reduceMul, Nat.reduceDiv, Nat.reduceEqDiff, Nat.reduceLeDiff, Nat.reduceLT, Int.reduceEq, Int.reduceNe, Int.reduceLT, Int.reduceLE, Int.reduceAdd, Int.reduceSub, Int.reduceMul, Int.reduceNeg, Int.reduceToNat, Int.reducePow, Nat.reducePow, not_false_eq_true, not_true_eq_false, reduceCtorEq, reduceIte, if_true, if_false, Bool.true_eq_false, Bool.false_eq_true, List.length_cons, List.length_nil, and_self, true_and, and_true, List.drop_zero, List.take_succ_cons, List.take_zero, List.drop_succ_cons]
        rfl
      · by_cases c2 : 4611686018427387904 ≤ beV ((b.drop at_).take s)
        · rw [getA, if_neg c1, if_pos c2] at h23
          rw [decN, if_pos (.inr c2)] at hdec
          rw [show rdA (rdM b) = rdA none by rw [rdM, ← hdec]; rfl]
          simp only [g1, hgs, hbi.1, hbi.2, h23, show szI.length = 14 from rfl, List.length_map, Int.toNat_natCast, j33, b33, q33, qq, ww, List.append_nil, List.all_nil, List.all_cons, true_or, or_true, false_or, or_false, List.contains_nil, List.isEmpty_nil, List.take_length, List.getElem?_cons_zero, List.getElem?_cons_succ, List.set_cons_zero, List.set_cons_succ, List.replicate, Option.isNone_none, List.map_append, List.length_append, List.all_nil, List.contains_cons, Nat.reduceBEq, List.map_cons, List.map_nil, List.cons_append, List.nil_append, Option.getD_some, Option.getD_none, Option.map_some, Option.map_none, Option.bind_some, Nat.reduceAdd, Nat.reduceMul, Nat.reduceDiv, Nat.reduceEqDiff, Nat.reduceLeDiff, Nat.reduceLT, Int.reduceEq, Int.reduceNe, Int.reduceLT, Int.reduceLE, Int.reduceAdd, Int.reduceSub, Int.reduceMul, Int.reduceNeg, Int.reduceToNat, Int.reducePow, Nat.reducePow, not_false_eq_true, not_true_eq_false, reduceCtorEq, reduceIte, if_true, if_false, Bool.true_eq_false, Bool.false_eq_true, List.length_cons, List.length_nil, and_self, true_and, and_true, List.drop_zero, List.take_succ_cons, List.take_zero, List.drop_succ_cons]
          rfl
        · rw [getA, if_neg c1, if_neg c2] at h23
          rw [decN, if_neg (by omega), List.drop_drop] at hdec
          have htk : List.take i (ns.map eI) = ns.map eI := List.take_of_length_le (by rw [List.length_map]; omega)
          have hby : (i + 1) * 8 ≤ 140737488355328 := by omega
          simp only [g1, hgs, hbi.1, hbi.2, h23, hnl, htk, hby, wi i (by omega), show szI.length = 14 from rfl, List.length_map, Int.toNat_natCast, Nat.le_refl, BEq.rfl, j33, b33, q33, qq, ww, List.append_nil, List.all_nil, List.all_cons, true_or, or_true, false_or, or_false, List.contains_nil, List.isEmpty_nil, List.take_length, List.getElem?_cons_zero, List.getElem?_cons_succ, List.set_cons_zero, List.set_cons_succ, List.replicate, Option.isNone_none, List.map_append, List.length_append, List.all_nil, List.contains_cons, Nat.reduceBEq, List.map_cons, List.map_nil, List.cons_append, List.nil_append, Option.getD_some, Option.getD_none, Option.map_some, Option.map_none, Option.bind_some, Nat.reduceAdd, Nat.reduceMul, Nat.reduceDiv, Nat.reduceEqDiff, Nat.reduceLeDiff, Nat.reduceLT, Int.reduceEq, Int.reduceNe, Int.reduceLT, Int.reduceLE, Int.reduceAdd, Int.reduceSub, Int.reduceMul, Int.reduceNeg, Int.reduceToNat, Int.reducePow, Nat.reducePow, not_false_eq_true, not_true_eq_false, reduceCtorEq, reduceIte, if_true, if_false, Bool.true_eq_false, Bool.false_eq_true, List.length_cons, List.length_nil, and_self, true_and, and_true, List.drop_zero, List.take_succ_cons, List.take_zero, List.drop_succ_cons]
          have hma : (ns ++ [beV ((b.drop at_).take s)]).map eI = ns.map eI ++ [[.int .i64 (beV ((b.drop at_).take s))]] := by rw [List.map_append]; rfl
          exact ih hlt _ _ (by simp only [gcK, lowB, Nat.reduceLeDiff, Nat.reduceBEq, List.contains_nil, List.contains_cons, Bool.or_false, Bool.false_or, Bool.false_eq_true, if_false, Bool.true_and, Bool.and_true, pickL, look_hit, look_miss, look_end, slMent, hpMent, S.ment, S.ment.smt, ments, V.ment, List.append_nil, List.nil_append, List.cons_append, List.all_nil, List.all_cons, Option.isSome_some, Bool.and_self, if_true, reduceIte, Nat.reduceEqDiff, not_false_eq_true, reduceCtorEq, Nat.reduceMul, Nat.reduceAdd]; rfl) ⟨ns ++ [beV ((b.drop at_).take s)], at_ + s, by rw [hma], by rw [List.length_append, hnl]; rfl, by rw [List.length_drop] at c1; omega, hdec⟩
    · obtain rfl : i = 14 := by omega
      have g1 : decide (((14 : Nat) : Int) < 14) = false := by simp
      have hdn : decN [] szs b = some (ns, b.drop at_) := by rw [← hdec]; rfl
      have h54 := fun d => e54 N d b at_ hb ha hN hl
      have hrd : rdM b = dec3 (some (ns, b.drop at_)) := by rw [rdM, hdn]
      rw [hrd]
      cases c1 : decL (b.drop at_) with
      | none =>
        rw [d3a c1]
        rw [c1] at h54
        simp only [lstA] at h54
        simp only [g1, h54, show szI.length = 14 from rfl, List.length_map, j33, b33, q33, qq, ww, List.append_nil, List.all_nil, List.all_cons, true_or, or_true, false_or, or_false, List.contains_nil, List.isEmpty_nil, List.take_length, List.getElem?_cons_zero, List.getElem?_cons_succ, List.set_cons_zero, List.set_cons_succ, List.replicate, Option.isNone_none, List.map_append, List.length_append, List.all_nil, List.contains_cons, Nat.reduceBEq, List.map_cons, List.map_nil, List.cons_append, List.nil_append, Option.getD_some, Option.getD_none, Option.map_some, Option.map_none, Option.bind_some, Nat.reduceAdd, Nat.reduceMul, Nat.reduceDiv, Nat.reduceEqDiff, Nat.reduceLeDiff, Nat.reduceLT, Int.reduceEq, Int.reduceNe, Int.reduceLT, Int.reduceLE, Int.reduceAdd, Int.reduceSub, Int.reduceMul, Int.reduceNeg, Int.reduceToNat, Int.reducePow, Nat.reducePow, not_false_eq_true, not_true_eq_false, reduceCtorEq, reduceIte, if_true, if_false, Bool.true_eq_false, Bool.false_eq_true, List.length_cons, List.length_nil, and_self, true_and, and_true, List.drop_zero, List.take_succ_cons, List.take_zero, List.drop_succ_cons]
        rfl
      | some p =>
        obtain ⟨pa, r2⟩ := p
        obtain ⟨rfl, ha2⟩ := decL_drop hb ha c1
        rw [c1] at h54
        simp only [lstA] at h54
        have h54b := fun d => e54 N d b (at_ + 1 + pa.length) hb ha2 hN hl
        cases c2 : decL (b.drop (at_ + 1 + pa.length)) with
        | none =>
          rw [d3b c1 c2]
          rw [c2] at h54b
          simp only [lstA] at h54b
          simp only [g1, h54, h54b, show szI.length = 14 from rfl, List.length_map, takeI, j33, b33, q33, qq, ww, List.append_nil, List.all_nil, List.all_cons, true_or, or_true, false_or, or_false, List.contains_nil, List.isEmpty_nil, List.take_length, List.getElem?_cons_zero, List.getElem?_cons_succ, List.set_cons_zero, List.set_cons_succ, List.replicate, Option.isNone_none, List.map_append, List.length_append, List.all_nil, List.contains_cons, Nat.reduceBEq, List.map_cons, List.map_nil, List.cons_append, List.nil_append, Option.getD_some, Option.getD_none, Option.map_some, Option.map_none, Option.bind_some, Nat.reduceAdd, Nat.reduceMul, Nat.reduceDiv, Nat.reduceEqDiff, Nat.reduceLeDiff, Nat.reduceLT, Int.reduceEq, Int.reduceNe, Int.reduceLT, Int.reduceLE, Int.reduceAdd, Int.reduceSub, Int.reduceMul, Int.reduceNeg, Int.reduceToNat, Int.reducePow, Nat.reducePow, not_false_eq_true, not_true_eq_false, reduceCtorEq, reduceIte, if_true, if_false, Bool.true_eq_false, Bool.false_eq_true, List.length_cons, List.length_nil, and_self, true_and, and_true, List.drop_zero, List.take_succ_cons, List.take_zero, List.drop_succ_cons]
          rfl
        | some p =>
          obtain ⟨td, r3⟩ := p
          obtain ⟨rfl, ha3⟩ := decL_drop hb ha2 c2
          rw [c2] at h54b
          simp only [lstA] at h54b
          by_cases c3 : at_ + 1 + pa.length + 1 + td.length = b.length
          · have g3 : decide (((at_ + 1 + pa.length + 1 + td.length : Nat) : Int) = (b.length : Int)) = true := by simp; omega
            have h55 := fun d => e55 N d ns hnl pa td
            have ht14 : List.take 14 (ns.map eI) = ns.map eI := List.take_of_length_le (by rw [List.length_map]; omega)
            have c2' := c2
            rw [c3, List.drop_length] at c2'
            rw [d3c c1 c2']
            simp only [g1, g3, h54, h54b, h55, hnl, ht14, mk_pa, mk_td, show szI.length = 14 from rfl, List.length_map, takeI, Nat.le_refl, j33, b33, q33, qq, ww, List.append_nil, List.all_nil, List.all_cons, true_or, or_true, false_or, or_false, List.contains_nil, List.isEmpty_nil, List.take_length, List.getElem?_cons_zero, List.getElem?_cons_succ, List.set_cons_zero, List.set_cons_succ, List.replicate, Option.isNone_none, List.map_append, List.length_append, List.all_nil, List.contains_cons, Nat.reduceBEq, List.map_cons, List.map_nil, List.cons_append, List.nil_append, Option.getD_some, Option.getD_none, Option.map_some, Option.map_none, Option.bind_some, Nat.reduceAdd, Nat.reduceMul, Nat.reduceDiv, Nat.reduceEqDiff, Nat.reduceLeDiff, Nat.reduceLT, Int.reduceEq, Int.reduceNe, Int.reduceLT, Int.reduceLE, Int.reduceAdd, Int.reduceSub, Int.reduceMul, Int.reduceNeg, Int.reduceToNat, Int.reducePow, Nat.reducePow, not_false_eq_true, not_true_eq_false, reduceCtorEq, reduceIte, if_true, if_false, Bool.true_eq_false, Bool.false_eq_true, List.length_cons, List.length_nil, and_self, true_and, and_true, List.drop_zero, List.take_succ_cons, List.take_zero, List.drop_succ_cons]
            simp only [rdA, aO, mk_pa, mk_td]
          · have g3 : decide (((at_ + 1 + pa.length + 1 + td.length : Nat) : Int) = (b.length : Int)) = false := by simp; omega
            have hne : b.drop (at_ + 1 + pa.length + 1 + td.length) ≠ [] := by
              intro e
              have := congrArg List.length e
              rw [List.length_drop] at this
              simp at this
              omega
            rw [d3d c1 c2 hne]
            simp only [g1, g3, h54, h54b, show szI.length = 14 from rfl, List.length_map, takeI, j33, b33, q33, qq, ww, List.append_nil, List.all_nil, List.all_cons, true_or, or_true, false_or, or_false, List.contains_nil, List.isEmpty_nil, List.take_length, List.getElem?_cons_zero, List.getElem?_cons_succ, List.set_cons_zero, List.set_cons_succ, List.replicate, Option.isNone_none, List.map_append, List.length_append, List.all_nil, List.contains_cons, Nat.reduceBEq, List.map_cons, List.map_nil, List.cons_append, List.nil_append, Option.getD_some, Option.getD_none, Option.map_some, Option.map_none, Option.bind_some, Nat.reduceAdd, Nat.reduceMul, Nat.reduceDiv, Nat.reduceEqDiff, Nat.reduceLeDiff, Nat.reduceLT, Int.reduceEq, Int.reduceNe, Int.reduceLT, Int.reduceLE, Int.reduceAdd, Int.reduceSub, Int.reduceMul, Int.reduceNeg, Int.reduceToNat, Int.reducePow, Nat.reducePow, not_false_eq_true, not_true_eq_false, reduceCtorEq, reduceIte, if_true, if_false, Bool.true_eq_false, Bool.false_eq_true, List.length_cons, List.length_nil, and_self, true_and, and_true, List.drop_zero, List.take_succ_cons, List.take_zero, List.drop_succ_cons]
            rfl
end Go.Proofs.Ytgjacdfiilcaaaa.CA
