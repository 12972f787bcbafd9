/- Texts joined: GH KD GI GJ GK EP GL L6 GM. -/
import Derived.Test.YtdflglehippoiaaGreatDoorZE1
import Derived.Test.YtdflglehippoiaaGreatDoorProg
set_option linter.unusedVariables false
set_option linter.unusedSimpArgs false
namespace Go.Proofs.YtdflglehippoiaaGreatDoor.GA
open Go Go.Proofs.YtdflglehippoiaaGreatDoorR IG
open QA (Ev eE aE rE epOK evOK qOK putE n01)
open AA (It eT aT rT wi takeT allT ahOK)
open EC (Cf eC okC)
open FA (Sm eS aS s0 smL flowC rightB heavyB heavy_t)
open KA (Kd eK aK rK nr okT okN kOK inB gap takeK all3)
set_option maxRecDepth 100000
set_option maxHeartbeats 4000000
theorem e89 (N d : Nat) (t self n : Int) (hn : -9223372036854775808 ≤ n ∧ n ≤ 9223372036854775807) : TT N (d + 4) 89 [iV t, iV self, iV n] = some (bV (lnk t self n), []) := by
  have h1 := fun d a b => KA.e99 N d t a b
  have h2 := fun d n lo hi => KA.e87 N d n lo hi
  rw [t89, F_ev rfl]
  unfold lnk
  by_cases g1 : n = 0
  · simp only [h1, h2, decide_eq_true g1, Bool.true_or, j89, b89, q89, qq, ww, List.replicate, Nat.reduceBEq, Nat.reduceAdd, Nat.reduceMul, Nat.reduceDiv, Nat.reduceEqDiff, Nat.reduceLeDiff, Nat.reduceLT, Int.reduceEq, Int.reduceNe, Int.reduceLT, Int.reduceLE, Int.reduceAdd, Int.reduceSub, Int.reduceMul, Int.reduceNeg, Int.reduceToNat, reduceCtorEq, reduceIte, if_true, if_false]
  have w1 : n > 0 → IntKind.i64.wrap (n - 1) = n - 1 := fun h => IntWalk.i64_in _ (by omega)
  by_cases g2 : n > 0
  · rw [w1 g2]
    cases g3 : inB n 1 8 with
    | false =>
      have : nr t (n - 1) self = false := by
        have : okN (n - 1) = false := by simp [okN, inB] at g3 ⊢; omega
        simp [nr, this]
      simp only [h1, h2, w1 g2, g3, this, decide_eq_false g1, decide_eq_true g2, Bool.false_or, Bool.true_and, j89, b89, q89, qq, ww, List.replicate, Nat.reduceBEq, Nat.reduceAdd, Nat.reduceMul, Nat.reduceDiv, Nat.reduceEqDiff, Nat.reduceLeDiff, Nat.reduceLT, Int.reduceEq, Int.reduceNe, Int.reduceLT, Int.reduceLE, Int.reduceAdd, Int.reduceSub, Int.reduceMul, Int.reduceNeg, Int.reduceToNat, reduceCtorEq, reduceIte, if_true, if_false]
    | true =>
      simp only [h1, h2, w1 g2, g3, decide_eq_false g1, decide_eq_true g2, Bool.false_or, Bool.true_and, j89, b89, q89, qq, ww, List.replicate, Nat.reduceBEq, Nat.reduceAdd, Nat.reduceMul, Nat.reduceDiv, Nat.reduceEqDiff, Nat.reduceLeDiff, Nat.reduceLT, Int.reduceEq, Int.reduceNe, Int.reduceLT, Int.reduceLE, Int.reduceAdd, Int.reduceSub, Int.reduceMul, Int.reduceNeg, Int.reduceToNat, reduceCtorEq, reduceIte, if_true, if_false]
  · have g3 : inB n 1 8 = false := by simp [inB]; omega
    simp only [h1, h2, g3, decide_eq_false g1, decide_eq_false g2, Bool.false_or, Bool.false_and, j89, b89, q89, qq, ww, List.replicate, Nat.reduceBEq, Nat.reduceAdd, Nat.reduceMul, Nat.reduceDiv, Nat.reduceEqDiff, Nat.reduceLeDiff, Nat.reduceLT, Int.reduceEq, Int.reduceNe, Int.reduceLT, Int.reduceLE, Int.reduceAdd, Int.reduceSub, Int.reduceMul, Int.reduceNeg, Int.reduceToNat, reduceCtorEq, reduceIte, if_true, if_false]
theorem e41 (N d : Nat) (c : Cf) (t self : Int) (hc : okC c = true) : TT N (d + 2) 41 [.agg (eC c), iV t, iV self] = some (bV (inB t 0 (c.t - 1) && inB self 0 (c.n - 1)), []) := by
  have h2 := fun d n lo hi => KA.e87 N d n lo hi
  have k := FA.okC_t hc
  have w1 : IntKind.i64.wrap (c.t - 1) = c.t - 1 := IntWalk.i64_in _ (by omega)
  have w2 : IntKind.i64.wrap (c.n - 1) = c.n - 1 := IntWalk.i64_in _ (by omega)
  rw [t41, F_ev rfl]
  cases g1 : inB t 0 (c.t - 1) with
  | false => simp only [h2, w1, w2, g1, Bool.false_and, j41, b41, q41, qq, ww, List.replicate, Nat.reduceBEq, Nat.reduceAdd, Nat.reduceMul, Nat.reduceDiv, Nat.reduceEqDiff, Nat.reduceLeDiff, Nat.reduceLT, Int.reduceEq, Int.reduceNe, Int.reduceLT, Int.reduceLE, Int.reduceAdd, Int.reduceSub, Int.reduceMul, Int.reduceNeg, Int.reduceToNat, reduceCtorEq, reduceIte, if_true, if_false]
  | true => simp only [h2, w1, w2, g1, Bool.true_and, j41, b41, q41, qq, ww, List.replicate, Nat.reduceBEq, Nat.reduceAdd, Nat.reduceMul, Nat.reduceDiv, Nat.reduceEqDiff, Nat.reduceLeDiff, Nat.reduceLT, Int.reduceEq, Int.reduceNe, Int.reduceLT, Int.reduceLE, Int.reduceAdd, Int.reduceSub, Int.reduceMul, Int.reduceNeg, Int.reduceToNat, reduceCtorEq, reduceIte, if_true, if_false]
end Go.Proofs.YtdflglehippoiaaGreatDoor.GA
namespace Go.Proofs.YtdflglehippoiaaGreatDoor.KA
open Go Go.Proofs.YtdflglehippoiaaGreatDoorR IG
set_option maxRecDepth 100000
set_option maxHeartbeats 4000000
def prvS (self : Int) (l : List Kd) (i : Nat) : Int := (prv l i).getD self
theorem prvS_s {self : Int} {l : List Kd} {i : Nat} (h : i < l.length) : prvS self l (i + 1) = l[i].n := by unfold prvS; rw [prv_s h]; rfl
theorem e91 (N d : Nat) (t self limit : Int) (l : List Kd) (hN : l.length < N) (hl : l.length < 1000000) : TT N (d + 4) 91 [iV t, iV self, iV limit, .one (rK l)] = some (bV (kOK t self limit l), []) := by
  rw [t91, F_ev rfl]
  cases h1 : okT t with
  | false => simp only [e73, h1, List.length_map, j91, b91, q91, qq, ww, List.replicate, Nat.reduceBEq, Nat.reduceAdd, Nat.reduceMul, Nat.reduceDiv, Nat.reduceEqDiff, Nat.reduceLeDiff, Nat.reduceLT, Int.reduceEq, Int.reduceNe, Int.reduceLT, Int.reduceLE, Int.reduceAdd, Int.reduceSub, Int.reduceMul, Int.reduceNeg, Int.reduceToNat, reduceCtorEq, reduceIte, if_true, if_false]; simp [kOK, h1]
  | true => cases h2 : okN self with
    | false => simp only [e73, e26, h1, h2, List.length_map, j91, b91, q91, qq, ww, List.replicate, Nat.reduceBEq, Nat.reduceAdd, Nat.reduceMul, Nat.reduceDiv, Nat.reduceEqDiff, Nat.reduceLeDiff, Nat.reduceLT, Int.reduceEq, Int.reduceNe, Int.reduceLT, Int.reduceLE, Int.reduceAdd, Int.reduceSub, Int.reduceMul, Int.reduceNeg, Int.reduceToNat, reduceCtorEq, reduceIte, if_true, if_false]; simp [kOK, h2]
    | true => cases h3 : inB limit 1 4 with
      | false => simp only [e73, e26, e87, h1, h2, h3, List.length_map, j91, b91, q91, qq, ww, List.replicate, Nat.reduceBEq, Nat.reduceAdd, Nat.reduceMul, Nat.reduceDiv, Nat.reduceEqDiff, Nat.reduceLeDiff, Nat.reduceLT, Int.reduceEq, Int.reduceNe, Int.reduceLT, Int.reduceLE, Int.reduceAdd, Int.reduceSub, Int.reduceMul, Int.reduceNeg, Int.reduceToNat, reduceCtorEq, reduceIte, if_true, if_false]; simp [kOK, h3]
      | true =>
        cases h4 : decide ((l.length : Int) > limit) with
        | true =>
          have : decide ((l.length : Int) ≤ limit) = false := by simp at h4 ⊢; omega
          simp only [e73, e26, e87, h1, h2, h3, h4, List.length_map, j91, b91, q91, qq, ww, List.replicate, Nat.reduceBEq, Nat.reduceAdd, Nat.reduceMul, Nat.reduceDiv, Nat.reduceEqDiff, Nat.reduceLeDiff, Nat.reduceLT, Int.reduceEq, Int.reduceNe, Int.reduceLT, Int.reduceLE, Int.reduceAdd, Int.reduceSub, Int.reduceMul, Int.reduceNeg, Int.reduceToNat, reduceCtorEq, reduceIte, if_true, if_false]; simp only [kOK, this, Bool.and_false, Bool.false_and]
        | false =>
        have h5 : decide ((l.length : Int) ≤ limit) = true := by simp at h4 ⊢; omega
        have ho : kOK t self limit l = chn t self l := by simp only [kOK, h1, h2, h3, h5, Bool.true_and]
        rw [ho]
        simp only [e73, e26, e87, h1, h2, h3, h4, List.length_map, j91, b91, q91, qq, ww, List.replicate, Nat.reduceBEq, Nat.reduceAdd, Nat.reduceMul, Nat.reduceDiv, Nat.reduceEqDiff, Nat.reduceLeDiff, Nat.reduceLT, Int.reduceEq, Int.reduceNe, Int.reduceLT, Int.reduceLE, Int.reduceAdd, Int.reduceSub, Int.reduceMul, Int.reduceNeg, Int.reduceToNat, reduceCtorEq, reduceIte, if_true, if_false]
        refine (loopK (K := fun o => fin _ (aft _ _ _ o)) (fun i => ⟨[(0, iV t), (3, .one (rK l)), (9, iV (prvS self l i)), (10, iV i)], []⟩) (fun i => some (bV (chn t (prvS self l i) (l.drop i)), [])) l.length ?hr l.length 0 N _ (by omega) hN ?hk).trans ?_
        case hk => simp only [gcK, lowB, Nat.reduceLeDiff, Nat.reduceBEq, List.contains_nil, List.contains_cons, Bool.or_false, Bool.false_or, Bool.false_eq_true, if_false, Bool.true_and, Bool.and_true, pickL, look_hit, look_miss, look_end, slMent, hpMent, S.ment, S.ment.smt, ments, V.ment, List.append_nil, List.nil_append, List.cons_append, List.all_nil, List.all_cons, Option.isSome_some, Bool.and_self, if_true, reduceIte, Nat.reduceEqDiff, not_false_eq_true, reduceCtorEq, Nat.reduceMul, Nat.reduceAdd]; rfl
        case hr =>
          intro i n hi ih
          (try dsimp only)
          by_cases hlt : i < l.length
          · have h1 : decide ((i : Int) < (l.length : Int)) = true := by simp; omega
            have hg1 : (l.map eK)[i]? = some (eK l[i]) := by simp [hlt]
            have hd1 : l.drop i = l[i] :: l.drop (i + 1) := by simp
            have hb : 0 ≤ (i : Int) ∧ (i : Int) < (l.length : Int) := by omega
            cases c2 : nr t (prvS self l i) l[i].n with
            | false =>
              cases c1 : okN l[i].n with
              | false =>
                simp only [h1, hb.1, hb.2, hg1, e26, e99, c1, c2, List.length_map, Int.toNat_natCast, j91, b91, q91, qq, ww, List.replicate, Nat.reduceBEq, Nat.reduceAdd, Nat.reduceMul, Nat.reduceDiv, Nat.reduceEqDiff, Nat.reduceLeDiff, Nat.reduceLT, Int.reduceEq, Int.reduceNe, Int.reduceLT, Int.reduceLE, Int.reduceAdd, Int.reduceSub, Int.reduceMul, Int.reduceNeg, Int.reduceToNat, reduceCtorEq, reduceIte, if_true, if_false]
                rw [hd1, chn, c2]; rfl
              | true =>
                simp only [h1, hb.1, hb.2, hg1, e26, e99, c1, c2, List.length_map, Int.toNat_natCast, j91, b91, q91, qq, ww, List.replicate, Nat.reduceBEq, Nat.reduceAdd, Nat.reduceMul, Nat.reduceDiv, Nat.reduceEqDiff, Nat.reduceLeDiff, Nat.reduceLT, Int.reduceEq, Int.reduceNe, Int.reduceLT, Int.reduceLE, Int.reduceAdd, Int.reduceSub, Int.reduceMul, Int.reduceNeg, Int.reduceToNat, reduceCtorEq, reduceIte, if_true, if_false]
                rw [hd1, chn, c2]; rfl
            | true =>
              have c1 := (nr_t c2).2.2.1
              cases c3 : inB l[i].i 1 1073741824 with
              | false =>
                simp only [h1, hb.1, hb.2, hg1, e26, e87, e99, c1, c2, c3, List.length_map, Int.toNat_natCast, j91, b91, q91, qq, ww, List.replicate, Nat.reduceBEq, Nat.reduceAdd, Nat.reduceMul, Nat.reduceDiv, Nat.reduceEqDiff, Nat.reduceLeDiff, Nat.reduceLT, Int.reduceEq, Int.reduceNe, Int.reduceLT, Int.reduceLE, Int.reduceAdd, Int.reduceSub, Int.reduceMul, Int.reduceNeg, Int.reduceToNat, reduceCtorEq, reduceIte, if_true, if_false]
                rw [hd1, chn, c2, inc2, c3]; rfl
              | true => cases c4 : inB l[i].a 0 6 with
                | false =>
                  simp only [h1, hb.1, hb.2, hg1, e26, e87, e99, c1, c2, c3, c4, List.length_map, Int.toNat_natCast, j91, b91, q91, qq, ww, List.replicate, Nat.reduceBEq, Nat.reduceAdd, Nat.reduceMul, Nat.reduceDiv, Nat.reduceEqDiff, Nat.reduceLeDiff, Nat.reduceLT, Int.reduceEq, Int.reduceNe, Int.reduceLT, Int.reduceLE, Int.reduceAdd, Int.reduceSub, Int.reduceMul, Int.reduceNeg, Int.reduceToNat, reduceCtorEq, reduceIte, if_true, if_false]
                  rw [hd1, chn, c2, inc2, c3, c4]; rfl
                | true =>
                  simp only [h1, hb.1, hb.2, hg1, e26, e87, e99, c1, c2, c3, c4, wi i (by omega), List.length_map, Int.toNat_natCast, j91, b91, q91, qq, ww, List.replicate, Nat.reduceBEq, Nat.reduceAdd, Nat.reduceMul, Nat.reduceDiv, Nat.reduceEqDiff, Nat.reduceLeDiff, Nat.reduceLT, Int.reduceEq, Int.reduceNe, Int.reduceLT, Int.reduceLE, Int.reduceAdd, Int.reduceSub, Int.reduceMul, Int.reduceNeg, Int.reduceToNat, reduceCtorEq, reduceIte, if_true, if_false]
                  rw [hd1, chn, c2, inc2, c3, c4, ← prvS_s hlt (self := self)]
                  exact ih hlt _ (by simp only [gcK, lowB, Nat.reduceLeDiff, Nat.reduceBEq, List.contains_nil, List.contains_cons, Bool.or_false, Bool.false_or, Bool.false_eq_true, if_false, Bool.true_and, Bool.and_true, pickL, look_hit, look_miss, look_end, slMent, hpMent, S.ment, S.ment.smt, ments, V.ment, List.append_nil, List.nil_append, List.cons_append, List.all_nil, List.all_cons, Option.isSome_some, Bool.and_self, if_true, reduceIte, Nat.reduceEqDiff, not_false_eq_true, reduceCtorEq, Nat.reduceMul, Nat.reduceAdd, prvS_s hlt])
          · have h1 : decide ((i : Int) < (l.length : Int)) = false := by simp; omega
            simp only [h1, List.length_map, j91, b91, q91, qq, ww, List.replicate, Nat.reduceBEq, Nat.reduceAdd, Nat.reduceMul, Nat.reduceDiv, Nat.reduceEqDiff, Nat.reduceLeDiff, Nat.reduceLT, Int.reduceEq, Int.reduceNe, Int.reduceLT, Int.reduceLE, Int.reduceAdd, Int.reduceSub, Int.reduceMul, Int.reduceNeg, Int.reduceToNat, reduceCtorEq, reduceIte, if_true, if_false]
            rw [List.drop_of_length_le (by omega)]
            rfl
        rfl
end Go.Proofs.YtdflglehippoiaaGreatDoor.KA
namespace Go.Proofs.YtdflglehippoiaaGreatDoor.GA
open Go Go.Proofs.YtdflglehippoiaaGreatDoorR IG
open QA (Ev eE aE rE epOK evOK qOK putE n01)
open AA (It eT aT rT wi takeT allT ahOK)
open EC (Cf eC okC)
open FA (Sm eS aS s0 smL flowC rightB heavyB heavy_t)
open KA (Kd eK aK rK nr okT okN kOK inB gap takeK all3)
set_option maxRecDepth 100000
set_option maxHeartbeats 4000000
theorem e90 (N d : Nat) (t self : Int) (l : List Int) (depth : Int) (h0 : okT t = true) (h1 : okN self = true) (h2 : inB depth 1 8 = true) (hN : l.length < N) (hl : l.length < 1000000) : TT N (d + 4) 90 [iV t, iV self, .one (rI l), iV depth] = some (iV (pthC t self l depth), []) := by
  have hi := fun d n => KA.e26 N d n
  have hn := fun d a b => KA.e99 N d t a b
  have hp : pthC t self l depth = if l.all okN then (if (l.length : Int) > depth then 12 else if risP t self l then 0 else 1) else 1 := by
    unfold pthC
    simp only [h0, h1, h2, Bool.true_and]
  rw [hp]
  rw [t90, F_ev rfl]
  simp only [List.length_map, j90, b90, q90, qq, ww, List.replicate, Nat.reduceBEq, Nat.reduceAdd, Nat.reduceMul, Nat.reduceDiv, Nat.reduceEqDiff, Nat.reduceLeDiff, Nat.reduceLT, Int.reduceEq, Int.reduceNe, Int.reduceLT, Int.reduceLE, Int.reduceAdd, Int.reduceSub, Int.reduceMul, Int.reduceNeg, Int.reduceToNat, reduceCtorEq, reduceIte, if_true, if_false]
  refine loopI (K := fun o => fin _ (aft _ _ _ o)) (I := fun i st => st = ⟨[(0, iV t), (1, iV self), (2, .one (rI l)), (3, iV depth), (9, iV i)], []⟩ ∧ l.all okN = (l.drop i).all okN) _ l.length ?hr l.length 0 N _ ⟨[(0, iV t), (1, iV self), (2, .one (rI l)), (3, iV depth), (9, iV 0)], []⟩ (by omega) (by omega) ?hk ⟨rfl, rfl⟩
  case hk => simp only [gcK, lowB, Nat.reduceLeDiff, Nat.reduceBEq, List.contains_nil, List.contains_cons, Bool.or_false, Bool.false_or, Bool.false_eq_true, if_false, Bool.true_and, Bool.and_true, pickL, look_hit, look_miss, look_end, slMent, hpMent, S.ment, S.ment.smt, ments, V.ment, List.append_nil, List.nil_append, List.cons_append, List.all_nil, List.all_cons, Option.isSome_some, Bool.and_self, if_true, reduceIte, Nat.reduceEqDiff, not_false_eq_true, reduceCtorEq, Nat.reduceMul, Nat.reduceAdd]; try rfl
  case hr =>
    rintro i n st hi2 ⟨rfl, hp⟩ ih
    (try dsimp only)
    by_cases hlt : i < l.length
    · have g1 : decide ((i : Int) < (l.length : Int)) = true := by simp; omega
      have hget : (l.map eI)[i]? = some (eI l[i]) := by simp [hlt]
      have hd : l.drop i = l[i] :: l.drop (i + 1) := by simp
      have hb : 0 ≤ (i : Int) ∧ (i : Int) < (l.length : Int) := by omega
      rw [hd, List.all_cons] at hp
      cases g2 : okN l[i] with
      | false =>
        rw [g2, Bool.false_and] at hp
        rw [hp, if_neg (by decide)]
        simp only [g1, hb.1, hb.2, List.length_map, Int.toNat_natCast, hget, hi, g2, j90, b90, q90, qq, ww, List.replicate, Nat.reduceBEq, Nat.reduceAdd, Nat.reduceMul, Nat.reduceDiv, Nat.reduceEqDiff, Nat.reduceLeDiff, Nat.reduceLT, Int.reduceEq, Int.reduceNe, Int.reduceLT, Int.reduceLE, Int.reduceAdd, Int.reduceSub, Int.reduceMul, Int.reduceNeg, Int.reduceToNat, reduceCtorEq, reduceIte, if_true, if_false]
      | true =>
        rw [g2, Bool.true_and] at hp
        simp only [g1, hb.1, hb.2, List.length_map, Int.toNat_natCast, hget, hi, g2, wi i (by omega), j90, b90, q90, qq, ww, List.replicate, Nat.reduceBEq, Nat.reduceAdd, Nat.reduceMul, Nat.reduceDiv, Nat.reduceEqDiff, Nat.reduceLeDiff, Nat.reduceLT, Int.reduceEq, Int.reduceNe, Int.reduceLT, Int.reduceLE, Int.reduceAdd, Int.reduceSub, Int.reduceMul, Int.reduceNeg, Int.reduceToNat, reduceCtorEq, reduceIte, if_true, if_false]
        exact ih hlt _ _ (by simp only [gcK, lowB, Nat.reduceLeDiff, Nat.reduceBEq, List.contains_nil, List.contains_cons, Bool.or_false, Bool.false_or, Bool.false_eq_true, if_false, Bool.true_and, Bool.and_true, pickL, look_hit, look_miss, look_end, slMent, hpMent, S.ment, S.ment.smt, ments, V.ment, List.append_nil, List.nil_append, List.cons_append, List.all_nil, List.all_cons, Option.isSome_some, Bool.and_self, if_true, reduceIte, Nat.reduceEqDiff, not_false_eq_true, reduceCtorEq, Nat.reduceMul, Nat.reduceAdd]) ⟨rfl, hp⟩
    · clear ih
      have g1 : decide ((i : Int) < (l.length : Int)) = false := by simp; omega
      rw [List.drop_of_length_le (by omega), List.all_nil] at hp
      rw [hp, if_pos rfl]
      by_cases g4 : (l.length : Int) > depth
      · rw [if_pos g4]
        simp only [g1, decide_eq_true g4, List.length_map, j90, b90, q90, qq, ww, List.replicate, Nat.reduceBEq, Nat.reduceAdd, Nat.reduceMul, Nat.reduceDiv, Nat.reduceEqDiff, Nat.reduceLeDiff, Nat.reduceLT, Int.reduceEq, Int.reduceNe, Int.reduceLT, Int.reduceLE, Int.reduceAdd, Int.reduceSub, Int.reduceMul, Int.reduceNeg, Int.reduceToNat, reduceCtorEq, reduceIte, if_true, if_false]
      rw [if_neg g4]
      simp only [g1, decide_eq_false g4, List.length_map, j90, b90, q90, qq, ww, List.replicate, Nat.reduceBEq, Nat.reduceAdd, Nat.reduceMul, Nat.reduceDiv, Nat.reduceEqDiff, Nat.reduceLeDiff, Nat.reduceLT, Int.reduceEq, Int.reduceNe, Int.reduceLT, Int.reduceLE, Int.reduceAdd, Int.reduceSub, Int.reduceMul, Int.reduceNeg, Int.reduceToNat, reduceCtorEq, reduceIte, if_true, if_false]
      refine loopI (K := fun o => fin _ (aft _ _ _ o)) (I := fun i st => ∃ p, st = ⟨[(0, iV t), (2, .one (rI l)), (10, iV p), (11, iV i)], []⟩ ∧ risP t self l = risP t p (l.drop i)) _ l.length ?hr2 l.length 0 N _ ⟨[(0, iV t), (2, .one (rI l)), (10, iV self), (11, iV 0)], []⟩ (by omega) (by omega) ?hk2 ⟨self, rfl, rfl⟩
      case hk2 => simp only [gcK, lowB, Nat.reduceLeDiff, Nat.reduceBEq, List.contains_nil, List.contains_cons, Bool.or_false, Bool.false_or, Bool.false_eq_true, if_false, Bool.true_and, Bool.and_true, pickL, look_hit, look_miss, look_end, slMent, hpMent, S.ment, S.ment.smt, ments, V.ment, List.append_nil, List.nil_append, List.cons_append, List.all_nil, List.all_cons, Option.isSome_some, Bool.and_self, if_true, reduceIte, Nat.reduceEqDiff, not_false_eq_true, reduceCtorEq, Nat.reduceMul, Nat.reduceAdd]; try rfl
      case hr2 =>
        rintro j n2 st hj ⟨p, rfl, hq⟩ ih2
        (try dsimp only)
        by_cases hjl : j < l.length
        · have y1 : decide ((j : Int) < (l.length : Int)) = true := by simp; omega
          have hget : (l.map eI)[j]? = some (eI l[j]) := by simp [hjl]
          have hd : l.drop j = l[j] :: l.drop (j + 1) := by simp
          have hb : 0 ≤ (j : Int) ∧ (j : Int) < (l.length : Int) := by omega
          rw [hd, risP] at hq
          cases g5 : nr t l[j] p with
          | false =>
            rw [g5, Bool.false_and] at hq
            rw [hq, if_neg (by decide)]
            simp only [y1, hb.1, hb.2, List.length_map, Int.toNat_natCast, hget, hn, g5, j90, b90, q90, qq, ww, List.replicate, Nat.reduceBEq, Nat.reduceAdd, Nat.reduceMul, Nat.reduceDiv, Nat.reduceEqDiff, Nat.reduceLeDiff, Nat.reduceLT, Int.reduceEq, Int.reduceNe, Int.reduceLT, Int.reduceLE, Int.reduceAdd, Int.reduceSub, Int.reduceMul, Int.reduceNeg, Int.reduceToNat, reduceCtorEq, reduceIte, if_true, if_false]
          | true =>
            rw [g5, Bool.true_and] at hq
            simp only [y1, hb.1, hb.2, List.length_map, Int.toNat_natCast, hget, hn, g5, wi j (by omega), j90, b90, q90, qq, ww, List.replicate, Nat.reduceBEq, Nat.reduceAdd, Nat.reduceMul, Nat.reduceDiv, Nat.reduceEqDiff, Nat.reduceLeDiff, Nat.reduceLT, Int.reduceEq, Int.reduceNe, Int.reduceLT, Int.reduceLE, Int.reduceAdd, Int.reduceSub, Int.reduceMul, Int.reduceNeg, Int.reduceToNat, reduceCtorEq, reduceIte, if_true, if_false]
            exact ih2 hjl _ _ (by simp only [gcK, lowB, Nat.reduceLeDiff, Nat.reduceBEq, List.contains_nil, List.contains_cons, Bool.or_false, Bool.false_or, Bool.false_eq_true, if_false, Bool.true_and, Bool.and_true, pickL, look_hit, look_miss, look_end, slMent, hpMent, S.ment, S.ment.smt, ments, V.ment, List.append_nil, List.nil_append, List.cons_append, List.all_nil, List.all_cons, Option.isSome_some, Bool.and_self, if_true, reduceIte, Nat.reduceEqDiff, not_false_eq_true, reduceCtorEq, Nat.reduceMul, Nat.reduceAdd]) ⟨_, rfl, hq⟩
        · have y1 : decide ((j : Int) < (l.length : Int)) = false := by simp; omega
          rw [List.drop_of_length_le (by omega), risP] at hq
          rw [hq, if_pos rfl]
          simp only [y1, List.length_map, j90, b90, q90, qq, ww, List.replicate, Nat.reduceBEq, Nat.reduceAdd, Nat.reduceMul, Nat.reduceDiv, Nat.reduceEqDiff, Nat.reduceLeDiff, Nat.reduceLT, Int.reduceEq, Int.reduceNe, Int.reduceLT, Int.reduceLE, Int.reduceAdd, Int.reduceSub, Int.reduceMul, Int.reduceNeg, Int.reduceToNat, reduceCtorEq, reduceIte, if_true, if_false]
end Go.Proofs.YtdflglehippoiaaGreatDoor.GA
namespace Go.Proofs.YtdflglehippoiaaGreatDoor.GA
open Go Go.Proofs.YtdflglehippoiaaGreatDoorR IG
open QA (Ev eE aE rE epOK evOK qOK putE n01)
open AA (It eT aT rT wi takeT allT ahOK)
open EC (Cf eC okC)
open FA (Sm eS aS s0 smL flowC rightB heavyB heavy_t)
open KA (Kd eK aK rK nr okT okN kOK inB gap takeK all3)
set_option maxRecDepth 100000
set_option maxHeartbeats 4000000
abbrev i64B (n : Int) : Prop := -9223372036854775808 ≤ n ∧ n ≤ 9223372036854775807
def rtA (self : Int) (x : Tp) : Bool := decide (x.r = 0) || (epOK x.r && (decide (x.r.tmod 16 = self) && decide (x.r ≤ x.t)))
def plA (x : Tp) : Bool := match x.pa with
  | [] => !decide (x.p > 0)
  | y :: _ => decide (x.p > 0) && decide (y = IntKind.i64.wrap (x.p - 1))
def rtC (x : Tp) : Bool := decide (x.r = 0) || (decide (x.p = 0) && decide (x.s.e = x.r))
def tpA (c : Cf) (t self : Int) (x : Tp) : Bool := inB x.t 0 1073741824 && (rtA self x && (lnk t self x.p && (lnk t self x.a && (lnk t self x.o && (inB x.g 0 1000 && (decide (pthC t self x.pa c.d = 0) && (plA x && (rtC x && (kOK t self c.k x.ks && (rightB c x.s && qOK x.q c.q))))))))))
theorem tpA_eq {c : Cf} {t self : Int} {x : Tp} (hc : okC c = true) (hp : i64B x.p) : tpA c t self x = rgtB c t self x := by
  have hf : decide (flowC c x.s x.q = 0) = (rightB c x.s && qOK x.q c.q) := by
    unfold flowC
    rw [if_pos hc]
    cases (rightB c x.s && qOK x.q c.q) <;> rfl
  have hl : lnk t self x.p = true → x.p = 0 ∨ (0 < x.p ∧ x.p ≤ 8) := fun h => by
    unfold lnk at h
    simp only [Bool.or_eq_true, Bool.and_eq_true, decide_eq_true_eq] at h
    rcases h with h | ⟨h, h2⟩
    · exact .inl h
    · have := KA.inB_t (KA.nr_t h2).2.1
      rw [IntWalk.i64_in _ (by omega)] at this
      exact .inr ⟨h, by omega⟩
  have hpl : lnk t self x.p = true → pthC t self x.pa c.d = 0 → plA x = plc x := fun h h2 => by
    unfold plA plc
    cases hpa : x.pa with
    | nil =>
      rcases hl h with h3 | h3
      · rw [h3]; rfl
      · rw [decide_eq_true (show x.p > 0 by omega), decide_eq_false (show ¬ x.p = 0 by omega)]; rfl
    | cons y r =>
      have hy : okN y = true := by
        rw [hpa] at h2
        unfold pthC at h2
        split at h2
        · rename_i h3
          simp only [Bool.and_eq_true, List.all_cons] at h3
          exact h3.2.1
        · omega
      have hb := KA.inB_t hy
      show (decide (x.p > 0) && decide (y = IntKind.i64.wrap (x.p - 1))) = decide (x.p = IntKind.i64.wrap (y + 1))
      rw [IntWalk.i64_in (y + 1) (by omega)]
      rcases hl h with h3 | h3
      · rw [h3]; simp; omega
      · rw [IntWalk.i64_in _ (by omega)]
        have : decide (x.p > 0) = true := by simp; omega
        rw [this, Bool.true_and]
        congr 1
        simp only [eq_iff_iff]
        omega
  have hrt : (rtA self x && rtC x) = rtd self x := by
    unfold rtA rtC rtd
    by_cases h : x.r = 0
    · simp [h]
    · simp only [decide_eq_false h, Bool.false_or, Bool.and_assoc]
  have ht : inB x.t 0 1073741824 = (decide (0 ≤ x.t) && decide (x.t ≤ 1073741824)) := rfl
  have hg : inB x.g 0 1000 = (decide (0 ≤ x.g) && decide (x.g ≤ 1000)) := rfl
  unfold tpA rgtB
  rw [← hrt, hf, ht, hg]
  cases h1 : lnk t self x.p with
  | false => simp
  | true =>
    by_cases h2 : pthC t self x.pa c.d = 0
    · rw [hpl h1 h2]
      simp only [Bool.and_assoc, Bool.true_and, decide_eq_true h2]
      cases decide (0 ≤ x.t) <;> cases decide (x.t ≤ 1073741824) <;> cases rtA self x <;> cases rtC x <;> cases decide (0 ≤ x.g) <;> cases decide (x.g ≤ 1000) <;> simp
    · simp [h2]
end Go.Proofs.YtdflglehippoiaaGreatDoor.GA
namespace Go.Proofs.YtdflglehippoiaaGreatDoor.GA
open Go Go.Proofs.YtdflglehippoiaaGreatDoorR IG
open QA (Ev eE aE rE epOK evOK qOK putE n01)
open AA (It eT aT rT wi takeT allT ahOK)
open EC (Cf eC okC)
open FA (Sm eS aS s0 smL flowC rightB heavyB heavy_t)
open KA (Kd eK aK rK nr okT okN kOK inB gap takeK all3)
set_option maxRecDepth 100000
set_option maxHeartbeats 4000000
theorem e42 (N d : Nat) (hN : 1000 ≤ N) (c : Cf) (t self : Int) (x : Tp) (hx : smX x) (hc : okC c = true) (h0 : okT t = true) (h1 : okN self = true) (b1 : i64B x.p) (b2 : i64B x.a) (b3 : i64B x.o) : TT N (d + 7) 42 [.agg (eC c), iV t, iV self, aX x] = some (bV (tpA c t self x), []) := by
  have kc := FA.okC_t hc
  have hi := fun d n lo hi => KA.e87 N d n lo hi
  have hE := fun d => QA.e88 N d x.r
  have hP := fun d => e89 N d t self x.p b1
  have hA := fun d => e89 N d t self x.a b2
  have hO := fun d => e89 N d t self x.o b3
  have hp := fun d => e90 N d t self x.pa c.d h0 h1 (by simp [inB]; omega) (by omega) (by omega)
  have hk := fun d => KA.e91 N d t self c.k x.ks (by omega) (by omega)
  have hf := fun d => FA.e92 N d hN c x.s x.q hx.2.2.1 hx.2.2.2
  rw [t42, F_ev rfl]
  unfold tpA
  cases g1 : inB x.t 0 1073741824 with
  | false => simp only [hi, g1, Bool.false_and, Bool.not_true, Bool.not_false, j42, b42, q42, qq, ww, List.replicate, Nat.reduceBEq, Nat.reduceAdd, Nat.reduceMul, Nat.reduceDiv, Nat.reduceEqDiff, Nat.reduceLeDiff, Nat.reduceLT, Int.reduceEq, Int.reduceNe, Int.reduceLT, Int.reduceLE, Int.reduceAdd, Int.reduceSub, Int.reduceMul, Int.reduceNeg, Int.reduceToNat, reduceCtorEq, reduceIte, if_true, if_false]
  | true =>
  have h00 : decide ((0 : Int) = 0) = true := rfl
  by_cases r0 : x.r = 0
  · have r0' := decide_eq_true r0
    unfold rtA
    cases g2 : lnk t self x.p with
    | false => simp only [hi, hE, hP, hA, hO, hp, hk, hf, h00, g1, r0', g2, Bool.false_and, Bool.true_and, Bool.and_false, Bool.false_or, Bool.true_or, Bool.not_true, Bool.not_false, Bool.and_self, List.length_map, List.length_nil, List.length_cons, List.map_nil, List.map_cons, j42, b42, q42, qq, ww, List.replicate, Nat.reduceBEq, Nat.reduceAdd, Nat.reduceMul, Nat.reduceDiv, Nat.reduceEqDiff, Nat.reduceLeDiff, Nat.reduceLT, Int.reduceEq, Int.reduceNe, Int.reduceLT, Int.reduceLE, Int.reduceAdd, Int.reduceSub, Int.reduceMul, Int.reduceNeg, Int.reduceToNat, reduceCtorEq, reduceIte, if_true, if_false]
    | true =>
    cases g3 : lnk t self x.a with
    | false => simp only [hi, hE, hP, hA, hO, hp, hk, hf, h00, g1, r0', g2, g3, Bool.false_and, Bool.true_and, Bool.and_false, Bool.false_or, Bool.true_or, Bool.not_true, Bool.not_false, Bool.and_self, List.length_map, List.length_nil, List.length_cons, List.map_nil, List.map_cons, j42, b42, q42, qq, ww, List.replicate, Nat.reduceBEq, Nat.reduceAdd, Nat.reduceMul, Nat.reduceDiv, Nat.reduceEqDiff, Nat.reduceLeDiff, Nat.reduceLT, Int.reduceEq, Int.reduceNe, Int.reduceLT, Int.reduceLE, Int.reduceAdd, Int.reduceSub, Int.reduceMul, Int.reduceNeg, Int.reduceToNat, reduceCtorEq, reduceIte, if_true, if_false]
    | true =>
    cases g4 : lnk t self x.o with
    | false => simp only [hi, hE, hP, hA, hO, hp, hk, hf, h00, g1, r0', g2, g3, g4, Bool.false_and, Bool.true_and, Bool.and_false, Bool.false_or, Bool.true_or, Bool.not_true, Bool.not_false, Bool.and_self, List.length_map, List.length_nil, List.length_cons, List.map_nil, List.map_cons, j42, b42, q42, qq, ww, List.replicate, Nat.reduceBEq, Nat.reduceAdd, Nat.reduceMul, Nat.reduceDiv, Nat.reduceEqDiff, Nat.reduceLeDiff, Nat.reduceLT, Int.reduceEq, Int.reduceNe, Int.reduceLT, Int.reduceLE, Int.reduceAdd, Int.reduceSub, Int.reduceMul, Int.reduceNeg, Int.reduceToNat, reduceCtorEq, reduceIte, if_true, if_false]
    | true =>
    cases g5 : inB x.g 0 1000 with
    | false => simp only [hi, hE, hP, hA, hO, hp, hk, hf, h00, g1, r0', g2, g3, g4, g5, Bool.false_and, Bool.true_and, Bool.and_false, Bool.false_or, Bool.true_or, Bool.not_true, Bool.not_false, Bool.and_self, List.length_map, List.length_nil, List.length_cons, List.map_nil, List.map_cons, j42, b42, q42, qq, ww, List.replicate, Nat.reduceBEq, Nat.reduceAdd, Nat.reduceMul, Nat.reduceDiv, Nat.reduceEqDiff, Nat.reduceLeDiff, Nat.reduceLT, Int.reduceEq, Int.reduceNe, Int.reduceLT, Int.reduceLE, Int.reduceAdd, Int.reduceSub, Int.reduceMul, Int.reduceNeg, Int.reduceToNat, reduceCtorEq, reduceIte, if_true, if_false]
    | true =>
    by_cases g6 : pthC t self x.pa c.d = 0
    rotate_left
    · have g6' := decide_eq_false g6
      simp only [hi, hE, hP, hA, hO, hp, hk, hf, h00, g1, r0', g2, g3, g4, g5, g6', Bool.false_and, Bool.true_and, Bool.and_false, Bool.false_or, Bool.true_or, Bool.not_true, Bool.not_false, Bool.and_self, List.length_map, List.length_nil, List.length_cons, List.map_nil, List.map_cons, j42, b42, q42, qq, ww, List.replicate, Nat.reduceBEq, Nat.reduceAdd, Nat.reduceMul, Nat.reduceDiv, Nat.reduceEqDiff, Nat.reduceLeDiff, Nat.reduceLT, Int.reduceEq, Int.reduceNe, Int.reduceLT, Int.reduceLE, Int.reduceAdd, Int.reduceSub, Int.reduceMul, Int.reduceNeg, Int.reduceToNat, reduceCtorEq, reduceIte, if_true, if_false]
    have g6' := decide_eq_true g6
    unfold plA
    cases hpa : x.pa with
    | nil =>
      rw [hpa] at hp
      (try rw [hpa] at g6')
      have c1 : decide ((0 : Int) > 0) = false := rfl
      by_cases g7 : x.p > 0
      · simp only [hi, hE, hP, hA, hO, hp, hk, hf, h00, g1, r0', g2, g3, g4, g5, g6', hpa, c1, decide_eq_true g7, Bool.false_and, Bool.true_and, Bool.and_false, Bool.false_or, Bool.true_or, Bool.not_true, Bool.not_false, Bool.and_self, List.length_map, List.length_nil, List.length_cons, List.map_nil, List.map_cons, j42, b42, q42, qq, ww, List.replicate, Nat.reduceBEq, Nat.reduceAdd, Nat.reduceMul, Nat.reduceDiv, Nat.reduceEqDiff, Nat.reduceLeDiff, Nat.reduceLT, Int.reduceEq, Int.reduceNe, Int.reduceLT, Int.reduceLE, Int.reduceAdd, Int.reduceSub, Int.reduceMul, Int.reduceNeg, Int.reduceToNat, reduceCtorEq, reduceIte, if_true, if_false]
      unfold rtC
      cases g9 : kOK t self c.k x.ks <;> simp only [hi, hE, hP, hA, hO, hp, hk, hf, h00, g1, r0', g2, g3, g4, g5, g6', hpa, c1, decide_eq_false g7, g9, Bool.false_and, Bool.true_and, Bool.and_false, Bool.false_or, Bool.true_or, Bool.not_true, Bool.not_false, Bool.and_self, List.length_map, List.length_nil, List.length_cons, List.map_nil, List.map_cons, j42, b42, q42, qq, ww, List.replicate, Nat.reduceBEq, Nat.reduceAdd, Nat.reduceMul, Nat.reduceDiv, Nat.reduceEqDiff, Nat.reduceLeDiff, Nat.reduceLT, Int.reduceEq, Int.reduceNe, Int.reduceLT, Int.reduceLE, Int.reduceAdd, Int.reduceSub, Int.reduceMul, Int.reduceNeg, Int.reduceToNat, reduceCtorEq, reduceIte, if_true, if_false]
    | cons y r =>
      rw [hpa] at hp
      (try rw [hpa] at g6')
      have c1 : decide (((r.length + 1 : Nat) : Int) > 0) = true := decide_eq_true (by omega)
      have c2 : (0 : Int) ≤ 0 ∧ (0 : Int) < ((r.length + 1 : Nat) : Int) := by omega
      by_cases g7 : x.p > 0
      rotate_left
      · simp only [hi, hE, hP, hA, hO, hp, hk, hf, h00, g1, r0', g2, g3, g4, g5, g6', hpa, c1, c2.1, c2.2, decide_eq_false g7, Bool.false_and, Bool.true_and, Bool.and_false, Bool.false_or, Bool.true_or, Bool.not_true, Bool.not_false, Bool.and_self, List.length_map, List.length_nil, List.length_cons, List.map_nil, List.map_cons, j42, b42, q42, qq, ww, List.replicate, Nat.reduceBEq, Nat.reduceAdd, Nat.reduceMul, Nat.reduceDiv, Nat.reduceEqDiff, Nat.reduceLeDiff, Nat.reduceLT, Int.reduceEq, Int.reduceNe, Int.reduceLT, Int.reduceLE, Int.reduceAdd, Int.reduceSub, Int.reduceMul, Int.reduceNeg, Int.reduceToNat, reduceCtorEq, reduceIte, if_true, if_false]
      by_cases g8 : y = IntKind.i64.wrap (x.p - 1)
      rotate_left
      · have g8' := decide_eq_false g8
        simp only [hi, hE, hP, hA, hO, hp, hk, hf, h00, g1, r0', g2, g3, g4, g5, g6', hpa, c1, c2.1, c2.2, decide_eq_true g7, g8', Bool.false_and, Bool.true_and, Bool.and_false, Bool.false_or, Bool.true_or, Bool.not_true, Bool.not_false, Bool.and_self, List.length_map, List.length_nil, List.length_cons, List.map_nil, List.map_cons, j42, b42, q42, qq, ww, List.replicate, Nat.reduceBEq, Nat.reduceAdd, Nat.reduceMul, Nat.reduceDiv, Nat.reduceEqDiff, Nat.reduceLeDiff, Nat.reduceLT, Int.reduceEq, Int.reduceNe, Int.reduceLT, Int.reduceLE, Int.reduceAdd, Int.reduceSub, Int.reduceMul, Int.reduceNeg, Int.reduceToNat, reduceCtorEq, reduceIte, if_true, if_false]
      have g8' := decide_eq_true g8
      unfold rtC
      cases g9 : kOK t self c.k x.ks <;> simp only [hi, hE, hP, hA, hO, hp, hk, hf, h00, g1, r0', g2, g3, g4, g5, g6', hpa, c1, c2.1, c2.2, decide_eq_true g7, g8', g9, Bool.false_and, Bool.true_and, Bool.and_false, Bool.false_or, Bool.true_or, Bool.not_true, Bool.not_false, Bool.and_self, List.length_map, List.length_nil, List.length_cons, List.map_nil, List.map_cons, j42, b42, q42, qq, ww, List.replicate, Nat.reduceBEq, Nat.reduceAdd, Nat.reduceMul, Nat.reduceDiv, Nat.reduceEqDiff, Nat.reduceLeDiff, Nat.reduceLT, Int.reduceEq, Int.reduceNe, Int.reduceLT, Int.reduceLE, Int.reduceAdd, Int.reduceSub, Int.reduceMul, Int.reduceNeg, Int.reduceToNat, reduceCtorEq, reduceIte, if_true, if_false]
  · have r0' := decide_eq_false r0
    unfold rtA
    cases v1 : epOK x.r with
    | false => simp only [hi, hE, hP, hA, hO, hp, hk, hf, h00, g1, r0', v1, Bool.false_and, Bool.true_and, Bool.and_false, Bool.false_or, Bool.true_or, Bool.not_true, Bool.not_false, Bool.and_self, List.length_map, List.length_nil, List.length_cons, List.map_nil, List.map_cons, j42, b42, q42, qq, ww, List.replicate, Nat.reduceBEq, Nat.reduceAdd, Nat.reduceMul, Nat.reduceDiv, Nat.reduceEqDiff, Nat.reduceLeDiff, Nat.reduceLT, Int.reduceEq, Int.reduceNe, Int.reduceLT, Int.reduceLE, Int.reduceAdd, Int.reduceSub, Int.reduceMul, Int.reduceNeg, Int.reduceToNat, reduceCtorEq, reduceIte, if_true, if_false]
    | true =>
    by_cases v2 : x.r.tmod 16 = self
    rotate_left
    · have v2' := decide_eq_false v2
      simp only [hi, hE, hP, hA, hO, hp, hk, hf, h00, g1, r0', v1, v2', Bool.false_and, Bool.true_and, Bool.and_false, Bool.false_or, Bool.true_or, Bool.not_true, Bool.not_false, Bool.and_self, List.length_map, List.length_nil, List.length_cons, List.map_nil, List.map_cons, j42, b42, q42, qq, ww, List.replicate, Nat.reduceBEq, Nat.reduceAdd, Nat.reduceMul, Nat.reduceDiv, Nat.reduceEqDiff, Nat.reduceLeDiff, Nat.reduceLT, Int.reduceEq, Int.reduceNe, Int.reduceLT, Int.reduceLE, Int.reduceAdd, Int.reduceSub, Int.reduceMul, Int.reduceNeg, Int.reduceToNat, reduceCtorEq, reduceIte, if_true, if_false]
    have v2' := decide_eq_true v2
    by_cases v3 : x.r ≤ x.t
    rotate_left
    · have v3' := decide_eq_false v3
      have v3'' : decide (x.r > x.t) = true := decide_eq_true (by omega)
      simp only [hi, hE, hP, hA, hO, hp, hk, hf, h00, g1, r0', v1, v2', v3', v3'', Bool.false_and, Bool.true_and, Bool.and_false, Bool.false_or, Bool.true_or, Bool.not_true, Bool.not_false, Bool.and_self, List.length_map, List.length_nil, List.length_cons, List.map_nil, List.map_cons, j42, b42, q42, qq, ww, List.replicate, Nat.reduceBEq, Nat.reduceAdd, Nat.reduceMul, Nat.reduceDiv, Nat.reduceEqDiff, Nat.reduceLeDiff, Nat.reduceLT, Int.reduceEq, Int.reduceNe, Int.reduceLT, Int.reduceLE, Int.reduceAdd, Int.reduceSub, Int.reduceMul, Int.reduceNeg, Int.reduceToNat, reduceCtorEq, reduceIte, if_true, if_false]
    have v3' := decide_eq_true v3
    have v3'' : decide (x.r > x.t) = false := decide_eq_false (by omega)
    cases g2 : lnk t self x.p with
    | false => simp only [hi, hE, hP, hA, hO, hp, hk, hf, h00, g1, r0', v1, v2', v3', v3'', g2, Bool.false_and, Bool.true_and, Bool.and_false, Bool.false_or, Bool.true_or, Bool.not_true, Bool.not_false, Bool.and_self, List.length_map, List.length_nil, List.length_cons, List.map_nil, List.map_cons, j42, b42, q42, qq, ww, List.replicate, Nat.reduceBEq, Nat.reduceAdd, Nat.reduceMul, Nat.reduceDiv, Nat.reduceEqDiff, Nat.reduceLeDiff, Nat.reduceLT, Int.reduceEq, Int.reduceNe, Int.reduceLT, Int.reduceLE, Int.reduceAdd, Int.reduceSub, Int.reduceMul, Int.reduceNeg, Int.reduceToNat, reduceCtorEq, reduceIte, if_true, if_false]
    | true =>
    cases g3 : lnk t self x.a with
    | false => simp only [hi, hE, hP, hA, hO, hp, hk, hf, h00, g1, r0', v1, v2', v3', v3'', g2, g3, Bool.false_and, Bool.true_and, Bool.and_false, Bool.false_or, Bool.true_or, Bool.not_true, Bool.not_false, Bool.and_self, List.length_map, List.length_nil, List.length_cons, List.map_nil, List.map_cons, j42, b42, q42, qq, ww, List.replicate, Nat.reduceBEq, Nat.reduceAdd, Nat.reduceMul, Nat.reduceDiv, Nat.reduceEqDiff, Nat.reduceLeDiff, Nat.reduceLT, Int.reduceEq, Int.reduceNe, Int.reduceLT, Int.reduceLE, Int.reduceAdd, Int.reduceSub, Int.reduceMul, Int.reduceNeg, Int.reduceToNat, reduceCtorEq, reduceIte, if_true, if_false]
    | true =>
    cases g4 : lnk t self x.o with
    | false => simp only [hi, hE, hP, hA, hO, hp, hk, hf, h00, g1, r0', v1, v2', v3', v3'', g2, g3, g4, Bool.false_and, Bool.true_and, Bool.and_false, Bool.false_or, Bool.true_or, Bool.not_true, Bool.not_false, Bool.and_self, List.length_map, List.length_nil, List.length_cons, List.map_nil, List.map_cons, j42, b42, q42, qq, ww, List.replicate, Nat.reduceBEq, Nat.reduceAdd, Nat.reduceMul, Nat.reduceDiv, Nat.reduceEqDiff, Nat.reduceLeDiff, Nat.reduceLT, Int.reduceEq, Int.reduceNe, Int.reduceLT, Int.reduceLE, Int.reduceAdd, Int.reduceSub, Int.reduceMul, Int.reduceNeg, Int.reduceToNat, reduceCtorEq, reduceIte, if_true, if_false]
    | true =>
    cases g5 : inB x.g 0 1000 with
    | false => simp only [hi, hE, hP, hA, hO, hp, hk, hf, h00, g1, r0', v1, v2', v3', v3'', g2, g3, g4, g5, Bool.false_and, Bool.true_and, Bool.and_false, Bool.false_or, Bool.true_or, Bool.not_true, Bool.not_false, Bool.and_self, List.length_map, List.length_nil, List.length_cons, List.map_nil, List.map_cons, j42, b42, q42, qq, ww, List.replicate, Nat.reduceBEq, Nat.reduceAdd, Nat.reduceMul, Nat.reduceDiv, Nat.reduceEqDiff, Nat.reduceLeDiff, Nat.reduceLT, Int.reduceEq, Int.reduceNe, Int.reduceLT, Int.reduceLE, Int.reduceAdd, Int.reduceSub, Int.reduceMul, Int.reduceNeg, Int.reduceToNat, reduceCtorEq, reduceIte, if_true, if_false]
    | true =>
    by_cases g6 : pthC t self x.pa c.d = 0
    rotate_left
    · have g6' := decide_eq_false g6
      simp only [hi, hE, hP, hA, hO, hp, hk, hf, h00, g1, r0', v1, v2', v3', v3'', g2, g3, g4, g5, g6', Bool.false_and, Bool.true_and, Bool.and_false, Bool.false_or, Bool.true_or, Bool.not_true, Bool.not_false, Bool.and_self, List.length_map, List.length_nil, List.length_cons, List.map_nil, List.map_cons, j42, b42, q42, qq, ww, List.replicate, Nat.reduceBEq, Nat.reduceAdd, Nat.reduceMul, Nat.reduceDiv, Nat.reduceEqDiff, Nat.reduceLeDiff, Nat.reduceLT, Int.reduceEq, Int.reduceNe, Int.reduceLT, Int.reduceLE, Int.reduceAdd, Int.reduceSub, Int.reduceMul, Int.reduceNeg, Int.reduceToNat, reduceCtorEq, reduceIte, if_true, if_false]
    have g6' := decide_eq_true g6
    unfold plA
    cases hpa : x.pa with
    | nil =>
      rw [hpa] at hp
      (try rw [hpa] at g6')
      have c1 : decide ((0 : Int) > 0) = false := rfl
      by_cases g7 : x.p > 0
      · simp only [hi, hE, hP, hA, hO, hp, hk, hf, h00, g1, r0', v1, v2', v3', v3'', g2, g3, g4, g5, g6', hpa, c1, decide_eq_true g7, Bool.false_and, Bool.true_and, Bool.and_false, Bool.false_or, Bool.true_or, Bool.not_true, Bool.not_false, Bool.and_self, List.length_map, List.length_nil, List.length_cons, List.map_nil, List.map_cons, j42, b42, q42, qq, ww, List.replicate, Nat.reduceBEq, Nat.reduceAdd, Nat.reduceMul, Nat.reduceDiv, Nat.reduceEqDiff, Nat.reduceLeDiff, Nat.reduceLT, Int.reduceEq, Int.reduceNe, Int.reduceLT, Int.reduceLE, Int.reduceAdd, Int.reduceSub, Int.reduceMul, Int.reduceNeg, Int.reduceToNat, reduceCtorEq, reduceIte, if_true, if_false]
      unfold rtC
      by_cases u1 : x.p = 0
      rotate_left
      · have u1' := decide_eq_false u1
        simp only [hi, hE, hP, hA, hO, hp, hk, hf, h00, g1, r0', v1, v2', v3', v3'', g2, g3, g4, g5, g6', hpa, c1, decide_eq_false g7, u1', Bool.false_and, Bool.true_and, Bool.and_false, Bool.false_or, Bool.true_or, Bool.not_true, Bool.not_false, Bool.and_self, List.length_map, List.length_nil, List.length_cons, List.map_nil, List.map_cons, j42, b42, q42, qq, ww, List.replicate, Nat.reduceBEq, Nat.reduceAdd, Nat.reduceMul, Nat.reduceDiv, Nat.reduceEqDiff, Nat.reduceLeDiff, Nat.reduceLT, Int.reduceEq, Int.reduceNe, Int.reduceLT, Int.reduceLE, Int.reduceAdd, Int.reduceSub, Int.reduceMul, Int.reduceNeg, Int.reduceToNat, reduceCtorEq, reduceIte, if_true, if_false]
      have u1' := decide_eq_true u1
      by_cases u2 : x.s.e = x.r
      rotate_left
      · have u2' := decide_eq_false u2
        simp only [hi, hE, hP, hA, hO, hp, hk, hf, h00, g1, r0', v1, v2', v3', v3'', g2, g3, g4, g5, g6', hpa, c1, decide_eq_false g7, u1', u2', Bool.false_and, Bool.true_and, Bool.and_false, Bool.false_or, Bool.true_or, Bool.not_true, Bool.not_false, Bool.and_self, List.length_map, List.length_nil, List.length_cons, List.map_nil, List.map_cons, j42, b42, q42, qq, ww, List.replicate, Nat.reduceBEq, Nat.reduceAdd, Nat.reduceMul, Nat.reduceDiv, Nat.reduceEqDiff, Nat.reduceLeDiff, Nat.reduceLT, Int.reduceEq, Int.reduceNe, Int.reduceLT, Int.reduceLE, Int.reduceAdd, Int.reduceSub, Int.reduceMul, Int.reduceNeg, Int.reduceToNat, reduceCtorEq, reduceIte, if_true, if_false]
      have u2' := decide_eq_true u2
      cases g9 : kOK t self c.k x.ks <;> simp only [hi, hE, hP, hA, hO, hp, hk, hf, h00, g1, r0', v1, v2', v3', v3'', g2, g3, g4, g5, g6', hpa, c1, decide_eq_false g7, u1', u2', g9, Bool.false_and, Bool.true_and, Bool.and_false, Bool.false_or, Bool.true_or, Bool.not_true, Bool.not_false, Bool.and_self, List.length_map, List.length_nil, List.length_cons, List.map_nil, List.map_cons, j42, b42, q42, qq, ww, List.replicate, Nat.reduceBEq, Nat.reduceAdd, Nat.reduceMul, Nat.reduceDiv, Nat.reduceEqDiff, Nat.reduceLeDiff, Nat.reduceLT, Int.reduceEq, Int.reduceNe, Int.reduceLT, Int.reduceLE, Int.reduceAdd, Int.reduceSub, Int.reduceMul, Int.reduceNeg, Int.reduceToNat, reduceCtorEq, reduceIte, if_true, if_false]
    | cons y r =>
      rw [hpa] at hp
      (try rw [hpa] at g6')
      have c1 : decide (((r.length + 1 : Nat) : Int) > 0) = true := decide_eq_true (by omega)
      have c2 : (0 : Int) ≤ 0 ∧ (0 : Int) < ((r.length + 1 : Nat) : Int) := by omega
      by_cases g7 : x.p > 0
      rotate_left
      · simp only [hi, hE, hP, hA, hO, hp, hk, hf, h00, g1, r0', v1, v2', v3', v3'', g2, g3, g4, g5, g6', hpa, c1, c2.1, c2.2, decide_eq_false g7, Bool.false_and, Bool.true_and, Bool.and_false, Bool.false_or, Bool.true_or, Bool.not_true, Bool.not_false, Bool.and_self, List.length_map, List.length_nil, List.length_cons, List.map_nil, List.map_cons, j42, b42, q42, qq, ww, List.replicate, Nat.reduceBEq, Nat.reduceAdd, Nat.reduceMul, Nat.reduceDiv, Nat.reduceEqDiff, Nat.reduceLeDiff, Nat.reduceLT, Int.reduceEq, Int.reduceNe, Int.reduceLT, Int.reduceLE, Int.reduceAdd, Int.reduceSub, Int.reduceMul, Int.reduceNeg, Int.reduceToNat, reduceCtorEq, reduceIte, if_true, if_false]
      by_cases g8 : y = IntKind.i64.wrap (x.p - 1)
      rotate_left
      · have g8' := decide_eq_false g8
        simp only [hi, hE, hP, hA, hO, hp, hk, hf, h00, g1, r0', v1, v2', v3', v3'', g2, g3, g4, g5, g6', hpa, c1, c2.1, c2.2, decide_eq_true g7, g8', Bool.false_and, Bool.true_and, Bool.and_false, Bool.false_or, Bool.true_or, Bool.not_true, Bool.not_false, Bool.and_self, List.length_map, List.length_nil, List.length_cons, List.map_nil, List.map_cons, j42, b42, q42, qq, ww, List.replicate, Nat.reduceBEq, Nat.reduceAdd, Nat.reduceMul, Nat.reduceDiv, Nat.reduceEqDiff, Nat.reduceLeDiff, Nat.reduceLT, Int.reduceEq, Int.reduceNe, Int.reduceLT, Int.reduceLE, Int.reduceAdd, Int.reduceSub, Int.reduceMul, Int.reduceNeg, Int.reduceToNat, reduceCtorEq, reduceIte, if_true, if_false]
      have g8' := decide_eq_true g8
      unfold rtC
      by_cases u1 : x.p = 0
      rotate_left
      · have u1' := decide_eq_false u1
        simp only [hi, hE, hP, hA, hO, hp, hk, hf, h00, g1, r0', v1, v2', v3', v3'', g2, g3, g4, g5, g6', hpa, c1, c2.1, c2.2, decide_eq_true g7, g8', u1', Bool.false_and, Bool.true_and, Bool.and_false, Bool.false_or, Bool.true_or, Bool.not_true, Bool.not_false, Bool.and_self, List.length_map, List.length_nil, List.length_cons, List.map_nil, List.map_cons, j42, b42, q42, qq, ww, List.replicate, Nat.reduceBEq, Nat.reduceAdd, Nat.reduceMul, Nat.reduceDiv, Nat.reduceEqDiff, Nat.reduceLeDiff, Nat.reduceLT, Int.reduceEq, Int.reduceNe, Int.reduceLT, Int.reduceLE, Int.reduceAdd, Int.reduceSub, Int.reduceMul, Int.reduceNeg, Int.reduceToNat, reduceCtorEq, reduceIte, if_true, if_false]
      have u1' := decide_eq_true u1
      by_cases u2 : x.s.e = x.r
      rotate_left
      · have u2' := decide_eq_false u2
        simp only [hi, hE, hP, hA, hO, hp, hk, hf, h00, g1, r0', v1, v2', v3', v3'', g2, g3, g4, g5, g6', hpa, c1, c2.1, c2.2, decide_eq_true g7, g8', u1', u2', Bool.false_and, Bool.true_and, Bool.and_false, Bool.false_or, Bool.true_or, Bool.not_true, Bool.not_false, Bool.and_self, List.length_map, List.length_nil, List.length_cons, List.map_nil, List.map_cons, j42, b42, q42, qq, ww, List.replicate, Nat.reduceBEq, Nat.reduceAdd, Nat.reduceMul, Nat.reduceDiv, Nat.reduceEqDiff, Nat.reduceLeDiff, Nat.reduceLT, Int.reduceEq, Int.reduceNe, Int.reduceLT, Int.reduceLE, Int.reduceAdd, Int.reduceSub, Int.reduceMul, Int.reduceNeg, Int.reduceToNat, reduceCtorEq, reduceIte, if_true, if_false]
      have u2' := decide_eq_true u2
      cases g9 : kOK t self c.k x.ks <;> simp only [hi, hE, hP, hA, hO, hp, hk, hf, h00, g1, r0', v1, v2', v3', v3'', g2, g3, g4, g5, g6', hpa, c1, c2.1, c2.2, decide_eq_true g7, g8', u1', u2', g9, Bool.false_and, Bool.true_and, Bool.and_false, Bool.false_or, Bool.true_or, Bool.not_true, Bool.not_false, Bool.and_self, List.length_map, List.length_nil, List.length_cons, List.map_nil, List.map_cons, j42, b42, q42, qq, ww, List.replicate, Nat.reduceBEq, Nat.reduceAdd, Nat.reduceMul, Nat.reduceDiv, Nat.reduceEqDiff, Nat.reduceLeDiff, Nat.reduceLT, Int.reduceEq, Int.reduceNe, Int.reduceLT, Int.reduceLE, Int.reduceAdd, Int.reduceSub, Int.reduceMul, Int.reduceNeg, Int.reduceToNat, reduceCtorEq, reduceIte, if_true, if_false]
end Go.Proofs.YtdflglehippoiaaGreatDoor.GA
namespace Go.Proofs.YtdflglehippoiaaGreatDoor.EC
open Go Go.Proofs.YtdflglehippoiaaGreatDoorR IG EA
set_option maxRecDepth 100000
set_option maxHeartbeats 4000000
def inB (n lo hi : Int) : Bool := decide (lo ≤ n) && decide (n ≤ hi)
theorem e60 (N d : Nat) (n lo hi : Int) : TT N (d + 1) 60 [iV n, iV lo, iV hi] = some (bV (inB n lo hi), []) := by
  rw [t60, F_ev rfl, inB]
  cases h1 : decide (lo ≤ n) <;> cases h2 : decide (n ≤ hi) <;> simp only [h1, h2, Bool.and_self, Bool.and_false, Bool.false_and, j60, b60, q60, qq, ww, List.replicate, Nat.reduceBEq, Nat.reduceAdd, Nat.reduceMul, Nat.reduceDiv, Nat.reduceEqDiff, Nat.reduceLeDiff, Nat.reduceLT, Int.reduceEq, Int.reduceNe, Int.reduceLT, Int.reduceLE, Int.reduceAdd, Int.reduceSub, Int.reduceMul, Int.reduceNeg, Int.reduceToNat, reduceCtorEq, reduceIte, if_true, if_false]
theorem okC_b (c : Cf) : okC c = (inB c.n 1 8 && (inB c.t 1 4 && (inB c.k 1 4 && (inB c.d 1 8 && (inB c.p 1 16 && (inB c.w 1 16 && inB c.q 2 32)))))) := by
  simp only [okC, inB, ← Bool.decide_and]
theorem e40 (N d : Nat) (c : Cf) : TT N (d + 2) 40 [.agg (eC c)] = some (bV (okC c), []) := by
  have h16 := fun d n lo hi => e60 N d n lo hi
  rw [t40, F_ev rfl, okC_b]
  cases h1 : inB c.n 1 8
  · simp only [h16, h1, Bool.and_self, Bool.and_false, Bool.false_and, Bool.true_and, j40, b40, q40, qq, ww, List.replicate, Nat.reduceBEq, Nat.reduceAdd, Nat.reduceMul, Nat.reduceDiv, Nat.reduceEqDiff, Nat.reduceLeDiff, Nat.reduceLT, Int.reduceEq, Int.reduceNe, Int.reduceLT, Int.reduceLE, Int.reduceAdd, Int.reduceSub, Int.reduceMul, Int.reduceNeg, Int.reduceToNat, reduceCtorEq, reduceIte, if_true, if_false]
  cases h2 : inB c.t 1 4
  · simp only [h16, h1, h2, Bool.and_self, Bool.and_false, Bool.false_and, Bool.true_and, j40, b40, q40, qq, ww, List.replicate, Nat.reduceBEq, Nat.reduceAdd, Nat.reduceMul, Nat.reduceDiv, Nat.reduceEqDiff, Nat.reduceLeDiff, Nat.reduceLT, Int.reduceEq, Int.reduceNe, Int.reduceLT, Int.reduceLE, Int.reduceAdd, Int.reduceSub, Int.reduceMul, Int.reduceNeg, Int.reduceToNat, reduceCtorEq, reduceIte, if_true, if_false]
  cases h3 : inB c.k 1 4
  · simp only [h16, h1, h2, h3, Bool.and_self, Bool.and_false, Bool.false_and, Bool.true_and, j40, b40, q40, qq, ww, List.replicate, Nat.reduceBEq, Nat.reduceAdd, Nat.reduceMul, Nat.reduceDiv, Nat.reduceEqDiff, Nat.reduceLeDiff, Nat.reduceLT, Int.reduceEq, Int.reduceNe, Int.reduceLT, Int.reduceLE, Int.reduceAdd, Int.reduceSub, Int.reduceMul, Int.reduceNeg, Int.reduceToNat, reduceCtorEq, reduceIte, if_true, if_false]
  cases h4 : inB c.d 1 8
  · simp only [h16, h1, h2, h3, h4, Bool.and_self, Bool.and_false, Bool.false_and, Bool.true_and, j40, b40, q40, qq, ww, List.replicate, Nat.reduceBEq, Nat.reduceAdd, Nat.reduceMul, Nat.reduceDiv, Nat.reduceEqDiff, Nat.reduceLeDiff, Nat.reduceLT, Int.reduceEq, Int.reduceNe, Int.reduceLT, Int.reduceLE, Int.reduceAdd, Int.reduceSub, Int.reduceMul, Int.reduceNeg, Int.reduceToNat, reduceCtorEq, reduceIte, if_true, if_false]
  cases h5 : inB c.p 1 16
  · simp only [h16, h1, h2, h3, h4, h5, Bool.and_self, Bool.and_false, Bool.false_and, Bool.true_and, j40, b40, q40, qq, ww, List.replicate, Nat.reduceBEq, Nat.reduceAdd, Nat.reduceMul, Nat.reduceDiv, Nat.reduceEqDiff, Nat.reduceLeDiff, Nat.reduceLT, Int.reduceEq, Int.reduceNe, Int.reduceLT, Int.reduceLE, Int.reduceAdd, Int.reduceSub, Int.reduceMul, Int.reduceNeg, Int.reduceToNat, reduceCtorEq, reduceIte, if_true, if_false]
  cases h6 : inB c.w 1 16
  · simp only [h16, h1, h2, h3, h4, h5, h6, Bool.and_self, Bool.and_false, Bool.false_and, Bool.true_and, j40, b40, q40, qq, ww, List.replicate, Nat.reduceBEq, Nat.reduceAdd, Nat.reduceMul, Nat.reduceDiv, Nat.reduceEqDiff, Nat.reduceLeDiff, Nat.reduceLT, Int.reduceEq, Int.reduceNe, Int.reduceLT, Int.reduceLE, Int.reduceAdd, Int.reduceSub, Int.reduceMul, Int.reduceNeg, Int.reduceToNat, reduceCtorEq, reduceIte, if_true, if_false]
  cases h7 : inB c.q 2 32
  · simp only [h16, h1, h2, h3, h4, h5, h6, h7, Bool.and_self, Bool.and_false, Bool.false_and, Bool.true_and, j40, b40, q40, qq, ww, List.replicate, Nat.reduceBEq, Nat.reduceAdd, Nat.reduceMul, Nat.reduceDiv, Nat.reduceEqDiff, Nat.reduceLeDiff, Nat.reduceLT, Int.reduceEq, Int.reduceNe, Int.reduceLT, Int.reduceLE, Int.reduceAdd, Int.reduceSub, Int.reduceMul, Int.reduceNeg, Int.reduceToNat, reduceCtorEq, reduceIte, if_true, if_false]
  simp only [h16, h1, h2, h3, h4, h5, h6, h7, Bool.and_self, Bool.and_false, Bool.false_and, Bool.true_and, j40, b40, q40, qq, ww, List.replicate, Nat.reduceBEq, Nat.reduceAdd, Nat.reduceMul, Nat.reduceDiv, Nat.reduceEqDiff, Nat.reduceLeDiff, Nat.reduceLT, Int.reduceEq, Int.reduceNe, Int.reduceLT, Int.reduceLE, Int.reduceAdd, Int.reduceSub, Int.reduceMul, Int.reduceNeg, Int.reduceToNat, reduceCtorEq, reduceIte, if_true, if_false]
end Go.Proofs.YtdflglehippoiaaGreatDoor.EC
namespace Go.Proofs.YtdflglehippoiaaGreatDoor.GA
open Go Go.Proofs.YtdflglehippoiaaGreatDoorR IG
open QA (Ev eE aE rE epOK evOK qOK putE n01)
open AA (It eT aT rT wi takeT allT ahOK)
open EC (Cf eC okC)
open FA (Sm eS aS s0 smL flowC rightB heavyB heavy_t itemP itemG fA gA flow_t flow_of right_t q_t kpOK kRow umodF)
open KA (Kd eK aK rK nr okT okN kOK inB gap takeK all3)
set_option maxRecDepth 100000
set_option maxHeartbeats 4000000
theorem grD {c : Cf} {t self : Int} {x : Tp} (hp : i64B x.p) : decide (grC c t self x = 0) = (okC c && ((inB t 0 (c.t - 1) && inB self 0 (c.n - 1)) && tpA c t self x)) := by
  unfold grC
  cases h : okC c with
  | false => rfl
  | true =>
    rw [tpA_eq h hp]
    have h1 : inB t 0 (c.t - 1) = (decide (0 ≤ t) && decide (t < c.t)) := by unfold inB; congr 1; rw [decide_eq_decide]; omega
    have h2 : inB self 0 (c.n - 1) = (decide (0 ≤ self) && decide (self < c.n)) := by unfold inB; congr 1; rw [decide_eq_decide]; omega
    rw [h1, h2]
    cases decide (0 ≤ t) <;> cases decide (t < c.t) <;> cases decide (0 ≤ self) <;> cases decide (self < c.n) <;> cases rgtB c t self x <;> rfl
theorem e14 (N d : Nat) (hN : 1000 ≤ N) (c : Cf) (t self : Int) (x : Tp) (hx : smX x) (z1 : i64B x.p) (z2 : i64B x.a) (z3 : i64B x.o) : TT N (d + 8) 14 [.agg (eC c), iV t, iV self, aX x] = some (bV (decide (grC c t self x = 0)), []) := by
  have hC := fun d => EC.e40 N d c
  rw [t14, F_ev rfl, grD z1]
  cases g0 : okC c with
  | false => simp only [hC, g0, Bool.false_and, j14, b14, q14, qq, ww, List.replicate, Nat.reduceBEq, Nat.reduceAdd, Nat.reduceMul, Nat.reduceDiv, Nat.reduceEqDiff, Nat.reduceLeDiff, Nat.reduceLT, Int.reduceEq, Int.reduceNe, Int.reduceLT, Int.reduceLE, Int.reduceAdd, Int.reduceSub, Int.reduceMul, Int.reduceNeg, Int.reduceToNat, reduceCtorEq, reduceIte, if_true, if_false]
  | true =>
  have kc := FA.okC_t g0
  have hP := fun d => e41 N d c t self g0
  cases g1 : (inB t 0 (c.t - 1) && inB self 0 (c.n - 1)) with
  | false => simp only [hC, hP, g0, g1, Bool.false_and, Bool.true_and, j14, b14, q14, qq, ww, List.replicate, Nat.reduceBEq, Nat.reduceAdd, Nat.reduceMul, Nat.reduceDiv, Nat.reduceEqDiff, Nat.reduceLeDiff, Nat.reduceLT, Int.reduceEq, Int.reduceNe, Int.reduceLT, Int.reduceLE, Int.reduceAdd, Int.reduceSub, Int.reduceMul, Int.reduceNeg, Int.reduceToNat, reduceCtorEq, reduceIte, if_true, if_false]
  | true =>
  have h4 := Bool.and_eq_true_iff.1 g1
  have k1 := KA.inB_t h4.1
  have k2 := KA.inB_t h4.2
  have hT := fun d => e42 N d hN c t self x hx g0 (by simp [okT, inB]; omega) (by simp [okN, inB]; omega) z1 z2 z3
  simp only [hC, hP, hT, g0, g1, Bool.true_and, j14, b14, q14, qq, ww, List.replicate, Nat.reduceBEq, Nat.reduceAdd, Nat.reduceMul, Nat.reduceDiv, Nat.reduceEqDiff, Nat.reduceLeDiff, Nat.reduceLT, Int.reduceEq, Int.reduceNe, Int.reduceLT, Int.reduceLE, Int.reduceAdd, Int.reduceSub, Int.reduceMul, Int.reduceNeg, Int.reduceToNat, reduceCtorEq, reduceIte, if_true, if_false]
abbrev wf8 (n : Int) : Prop := (Lit.int .i64 n).wf = true
theorem wf8_b {n : Int} (h : wf8 n) : i64B n := by
  simp only [wf8, Lit.wf] at h
  simp [IntKind.min, IntKind.max, IntKind.signed, IntKind.bits] at h
  omega
theorem root_bare {c : Cf} {t self : Int} {x : Tp} (h : grC c t self x = 0) (hr : x.r ≠ 0) : x.p = 0 ∧ x.pa = [] ∧ x.s.e = x.r ∧ epOK x.r = true ∧ x.r.tmod 16 = self ∧ x.r ≤ x.t := by
  obtain ⟨k1, k2, k3, k4, k5, k6, k7, k8, k9, k10, k11⟩ := gr_t h
  unfold rgtB at k6
  simp only [Bool.and_eq_true, decide_eq_true_eq] at k6
  obtain ⟨_, _, _, _, _, _, _, h1, h2, h3, _⟩ := k6
  unfold rtd at h1
  simp only [Bool.or_eq_true, Bool.and_eq_true, decide_eq_true_eq] at h1
  rcases h1 with h4 | ⟨e1, e2, e3, e4, e5⟩
  · exact absurd h4 hr
  refine ⟨e4, ?_, e5, e1, e2, e3⟩
  cases hpa : x.pa with
  | nil => rfl
  | cons y r =>
    unfold plc at h2
    rw [hpa] at h2 h3
    simp only [decide_eq_true_eq] at h2
    have hy : okN y = true := by
      unfold pthC at h3
      split at h3
      · rename_i h5
        simp only [Bool.and_eq_true, List.all_cons] at h5
        exact h5.2.1
      · omega
    have hb := KA.inB_t hy
    rw [IntWalk.i64_in (y + 1) (by omega)] at h2
    omega
theorem bc_right {c : Cf} {t self : Int} {x : Tp} (h : grC c t self x = 0) (h2 : (bcG self x).2 = 0) : grC c t self (bcG self x).1 = 0 ∧ (bcG self x).1.r = (bcG self x).1.t ∧ (bcG self x).1.r ≠ 0 := by
  obtain ⟨k1, k2, k3, k4, k5, k6, k7, k8, k9, k10, k11⟩ := gr_t h
  have hT := bc_t h h2
  unfold bcG at h2 hT ⊢
  by_cases g1 : x.r ≠ 0 ∧ x.t = x.r
  · rw [if_pos g1]
    exact ⟨h, g1.2.symm, g1.1⟩
  rw [if_neg g1] at h2 hT ⊢
  by_cases g2 : nxE self x.t = 0
  · rw [if_pos g2] at h2
    exact absurd h2 (by decide)
  rw [if_neg g2] at hT ⊢
  have he := nx_ep k7 ⟨k9, k10⟩ g2
  have hb := nx_b k7 ⟨k9, k10⟩
  refine ⟨?_, rfl, g2⟩
  unfold rgtB at k6
  simp only [Bool.and_eq_true, decide_eq_true_eq] at k6
  obtain ⟨_, _, _, _, _, _, _, h1, h2', h3, h4, h5⟩ := k6
  have kc := FA.okC_t k1
  have hl : lnk t self 0 = true := rfl
  have hp : pthC t self [] c.d = 0 := by
    have : inB c.d 1 8 = true := by simp [inB]; omega
    simp [pthC, k8, k7, this, risP]; omega
  have h9 : rgtB c t self ⟨x.m, x.b, nxE self x.t, nxE self x.t, 0, 0, 0, 0, [], x.ks, ⟨nxE self x.t, 1, 1, [], []⟩, x.q⟩ = true := by
    simp only [rgtB, Bool.and_eq_true, decide_eq_true_eq]
    refine ⟨by omega, by omega, by omega, by omega, hl, hl, hl, ?_, rfl, hp, h4, hT.1⟩
    simp [rtd, he.1, he.2]
  unfold grC
  rw [if_pos k1, if_pos]
  simp only [Bool.and_eq_true, decide_eq_true_eq]
  exact ⟨k2, k3, k4, k5, h9⟩
theorem bc_same {c : Cf} {t self : Int} {x : Tp} (h : grC c t self x = 0) (h2 : (bcG self x).2 = 0) : bcG self (bcG self x).1 = ((bcG self x).1, 0) := by
  obtain ⟨_, h3, h4⟩ := bc_right h h2
  generalize (bcG self x).1 = y at *
  unfold bcG
  rw [if_pos ⟨h4, h3.symm⟩]
end Go.Proofs.YtdflglehippoiaaGreatDoor.GA
set_option maxRecDepth 100000
namespace Go.Proofs.YtdflglehippoiaaGreatDoor.L6
open Go Go.Proofs.YtdflglehippoiaaGreatDoorR
def j3 : C := (.seq (.region [⟨some 4, .box (.t 0), none, [], []⟩,
  ⟨some 7, .box (.t 3), none, [], []⟩,
  ⟨some 8, .mov (.c (.bool false)), none, [], []⟩] false)
 (.seq (.seq (.region [⟨some 15, .load true 16 (.t 7), none, [], []⟩,
  ⟨some 16, .call false 13 [(.t 15)], none, [], []⟩,
  ⟨some 17, .mov (.t 16), none, [], []⟩,
  ⟨some 18, .load true 7 (.t 4), some (17, false), [], []⟩,
  ⟨some 19, .mov (.t 1), some (17, false), [], []⟩,
  ⟨some 20, .mov (.t 2), some (17, false), [], []⟩,
  ⟨some 21, .load true 16 (.t 7), some (17, false), [], []⟩,
  ⟨some 22, .call false 14 [(.t 18), (.t 19), (.t 20), (.t 21)], some (17, false), [], []⟩,
  ⟨some 23, .un .not (.t 22), some (17, false), [], []⟩,
  ⟨some 24, .pick (.t 17) (.c (.bool true)) (.t 23), none, [], []⟩] false)
 (.cond (.t 24) (.seq (.region [⟨some 8, .mov (.c (.bool true)), none, [], []⟩] false)
 .ret) .skip))
 (.seq (.region [⟨some 26, .load true 7 (.t 4), none, [], []⟩,
  ⟨some 27, .mov (.t 1), none, [], []⟩,
  ⟨some 28, .mov (.t 2), none, [], []⟩,
  ⟨some 29, .load true 16 (.t 7), none, [], []⟩,
  ⟨some 30, .call false 15 [(.t 26), (.t 27), (.t 28), (.t 29)], none, [], []⟩,
  ⟨some 25, .mov (.t 30), none, [], []⟩,
  ⟨some 31, .ext (.t 25) 0, none, [], []⟩,
  ⟨some 32, .ext (.t 25) 1, none, [], []⟩,
  ⟨some 9, .alloc [.bool false, .bool false, .int .i64 0, .int .i64 0, .int .i64 0, .int .i64 0, .int .i64 0, .int .i64 0, .row [], .row [], .int .i64 0, .int .i64 0, .int .i64 0, .row [], .row [], .row []], none, [], []⟩,
  ⟨none, .store none 16 (.t 9) (.t 31), none, [], []⟩,
  ⟨some 10, .mov (.t 32), none, [], []⟩] false)
 (.seq (.seq (.region [⟨some 33, .mov (.t 10), none, [], []⟩,
  ⟨some 34, .bin .neq (.t 33) (.c (.int .i64 0)), none, [], []⟩] false)
 (.cond (.t 34) (.seq (.region [⟨some 35, .mov (.t 10), none, [], []⟩,
  ⟨some 36, .bin .eql (.t 35) (.c (.int .i64 11)), none, [], []⟩,
  ⟨some 37, .mov (.t 36), none, [], []⟩,
  ⟨some 38, .fad 2 (.t 7), some (37, true), [], []⟩,
  ⟨some 39, .load false 1 (.t 38), some (37, true), [], []⟩,
  ⟨some 40, .bin .gtr (.t 39) (.c (.int .i64 1073741792)), some (37, true), [], []⟩,
  ⟨some 41, .pick (.t 37) (.t 40) (.c (.bool false)), none, [], []⟩,
  ⟨some 42, .mov (.t 41), none, [], []⟩,
  ⟨some 43, .call false 16 [], some (42, true), [], []⟩,
  ⟨some 44, .pick (.t 42) (.t 43) (.c (.bool false)), none, [], []⟩,
  ⟨some 8, .mov (.t 44), none, [], []⟩] false)
 .ret) .skip))
 (.seq (.region [⟨some 46, .fad 3 (.t 9), none, [], []⟩,
  ⟨some 47, .load false 1 (.t 46), none, [], []⟩,
  ⟨some 48, .call false 17 [(.t 47)], none, [], []⟩,
  ⟨some 45, .mov (.t 48), none, [], []⟩,
  ⟨some 49, .ext (.t 45) 0, none, [], []⟩,
  ⟨some 50, .ext (.t 45) 1, none, [], []⟩,
  ⟨some 11, .mov (.t 49), none, [], []⟩,
  ⟨some 12, .mov (.t 50), none, [], []⟩] false)
 (.seq (.seq (.region [⟨some 51, .mov (.t 12), none, [], []⟩,
  ⟨some 52, .bin .neq (.t 51) (.c (.int .i64 0)), none, [], []⟩,
  ⟨some 53, .mov (.t 52), none, [], []⟩,
  ⟨some 54, .mov (.t 11), some (53, false), [], []⟩,
  ⟨some 55, .mov (.t 2), some (53, false), [], []⟩,
  ⟨some 56, .bin .neq (.t 54) (.t 55), some (53, false), [], []⟩,
  ⟨some 57, .pick (.t 53) (.c (.bool true)) (.t 56), none, [], []⟩,
  ⟨some 58, .mov (.t 57), none, [], []⟩,
  ⟨some 59, .fad 3 (.t 9), some (58, false), [], []⟩,
  ⟨some 60, .load false 1 (.t 59), some (58, false), [], []⟩,
  ⟨some 61, .fad 2 (.t 9), some (58, false), [], []⟩,
  ⟨some 62, .load false 1 (.t 61), some (58, false), [], []⟩,
  ⟨some 63, .bin .neq (.t 60) (.t 62), some (58, false), [], []⟩,
  ⟨some 64, .pick (.t 58) (.c (.bool true)) (.t 63), none, [], []⟩,
  ⟨some 65, .mov (.t 64), none, [], []⟩,
  ⟨some 66, .fad 4 (.t 9), some (65, false), [], []⟩,
  ⟨some 67, .load false 1 (.t 66), some (65, false), [], []⟩,
  ⟨some 68, .bin .neq (.t 67) (.c (.int .i64 0)), some (65, false), [], []⟩,
  ⟨some 69, .pick (.t 65) (.c (.bool true)) (.t 68), none, [], []⟩,
  ⟨some 70, .mov (.t 69), none, [], []⟩,
  ⟨some 71, .fad 8 (.t 9), some (70, false), [], []⟩,
  ⟨some 72, .load false 1 (.t 71), some (70, false), [], []⟩,
  ⟨some 73, .len (.t 72), some (70, false), [], []⟩,
  ⟨some 74, .bin .neq (.t 73) (.c (.int .i64 0)), some (70, false), [], []⟩,
  ⟨some 75, .pick (.t 70) (.c (.bool true)) (.t 74), none, [], []⟩,
  ⟨some 76, .mov (.t 75), none, [], []⟩,
  ⟨some 77, .load true 7 (.t 4), some (76, false), [], []⟩,
  ⟨some 78, .mov (.t 1), some (76, false), [], []⟩,
  ⟨some 79, .mov (.t 2), some (76, false), [], []⟩,
  ⟨some 80, .load true 16 (.t 9), some (76, false), [], []⟩,
  ⟨some 81, .call false 18 [(.t 77), (.t 78), (.t 79), (.t 80)], some (76, false), [], []⟩,
  ⟨some 82, .bin .neq (.t 81) (.c (.int .i64 0)), some (76, false), [], []⟩,
  ⟨some 83, .pick (.t 76) (.c (.bool true)) (.t 82), none, [], []⟩,
  ⟨some 84, .mov (.t 83), none, [], []⟩,
  ⟨some 85, .fad 10 (.t 9), some (84, false), [], []⟩,
  ⟨some 86, .fad 0 (.t 85), some (84, false), [], []⟩,
  ⟨some 87, .load false 1 (.t 86), some (84, false), [], []⟩,
  ⟨some 88, .fad 3 (.t 9), some (84, false), [], []⟩,
  ⟨some 89, .load false 1 (.t 88), some (84, false), [], []⟩,
  ⟨some 90, .bin .neq (.t 87) (.t 89), some (84, false), [], []⟩,
  ⟨some 91, .pick (.t 84) (.c (.bool true)) (.t 90), none, [], []⟩] false)
 (.cond (.t 91) (.seq (.region [⟨some 8, .mov (.c (.bool false)), none, [], []⟩] false)
 .ret) .skip))
 (.seq (.seq (.region [⟨some 92, .fad 3 (.t 7), none, [], []⟩,
  ⟨some 93, .load false 1 (.t 92), none, [], []⟩,
  ⟨some 94, .bin .neq (.t 93) (.c (.int .i64 0)), none, [], []⟩,
  ⟨some 95, .mov (.t 94), none, [], []⟩,
  ⟨some 96, .fad 3 (.t 7), some (95, true), [], []⟩,
  ⟨some 97, .load false 1 (.t 96), some (95, true), [], []⟩,
  ⟨some 98, .fad 2 (.t 7), some (95, true), [], []⟩,
  ⟨some 99, .load false 1 (.t 98), some (95, true), [], []⟩,
  ⟨some 100, .bin .eql (.t 97) (.t 99), some (95, true), [], []⟩,
  ⟨some 101, .pick (.t 95) (.t 100) (.c (.bool false)), none, [], []⟩] false)
 (.cond (.t 101) (.seq (.region [⟨some 102, .load true 16 (.t 9), none, [], []⟩,
  ⟨some 103, .load true 16 (.t 7), none, [], []⟩,
  ⟨some 104, .call false 19 [(.t 102), (.t 103)], none, [], []⟩,
  ⟨some 105, .mov (.t 104), none, [], []⟩,
  ⟨some 106, .call false 16 [], some (105, true), [], []⟩,
  ⟨some 107, .pick (.t 105) (.t 106) (.c (.bool false)), none, [], []⟩,
  ⟨some 8, .mov (.t 107), none, [], []⟩] false)
 .ret) .skip))
 (.seq (.region [⟨some 109, .load true 7 (.t 4), none, [], []⟩,
  ⟨some 110, .mov (.t 1), none, [], []⟩,
  ⟨some 111, .mov (.t 2), none, [], []⟩,
  ⟨some 112, .load true 16 (.t 9), none, [], []⟩,
  ⟨some 113, .call false 15 [(.t 109), (.t 110), (.t 111), (.t 112)], none, [], []⟩,
  ⟨some 108, .mov (.t 113), none, [], []⟩,
  ⟨some 114, .ext (.t 108) 0, none, [], []⟩,
  ⟨some 115, .ext (.t 108) 1, none, [], []⟩,
  ⟨some 13, .alloc [.bool false, .bool false, .int .i64 0, .int .i64 0, .int .i64 0, .int .i64 0, .int .i64 0, .int .i64 0, .row [], .row [], .int .i64 0, .int .i64 0, .int .i64 0, .row [], .row [], .row []], none, [], []⟩,
  ⟨none, .store none 16 (.t 13) (.t 114), none, [], []⟩,
  ⟨some 14, .mov (.t 115), none, [], []⟩] false)
 (.seq (.region [⟨some 116, .fad 3 (.t 9), none, [], []⟩,
  ⟨some 117, .load false 1 (.t 116), none, [], []⟩,
  ⟨some 118, .fad 2 (.t 7), none, [], []⟩,
  ⟨some 119, .load false 1 (.t 118), none, [], []⟩,
  ⟨some 120, .bin .gtr (.t 117) (.t 119), none, [], []⟩,
  ⟨some 121, .mov (.t 120), none, [], []⟩,
  ⟨some 122, .fad 10 (.t 9), some (121, true), [], []⟩,
  ⟨some 123, .fad 1 (.t 122), some (121, true), [], []⟩,
  ⟨some 124, .load false 1 (.t 123), some (121, true), [], []⟩,
  ⟨some 125, .bin .eql (.t 124) (.c (.int .i64 1)), some (121, true), [], []⟩,
  ⟨some 126, .pick (.t 121) (.t 125) (.c (.bool false)), none, [], []⟩,
  ⟨some 127, .mov (.t 126), none, [], []⟩,
  ⟨some 128, .fad 10 (.t 9), some (127, true), [], []⟩,
  ⟨some 129, .fad 3 (.t 128), some (127, true), [], []⟩,
  ⟨some 130, .load false 1 (.t 129), some (127, true), [], []⟩,
  ⟨some 131, .len (.t 130), some (127, true), [], []⟩,
  ⟨some 132, .fad 10 (.t 9), some (127, true), [], []⟩,
  ⟨some 133, .fad 4 (.t 132), some (127, true), [], []⟩,
  ⟨some 134, .load false 1 (.t 133), some (127, true), [], []⟩,
  ⟨some 135, .len (.t 134), some (127, true), [], []⟩,
  ⟨some 136, .bin .add (.t 131) (.t 135), some (127, true), [], []⟩,
  ⟨some 137, .bin .eql (.t 136) (.c (.int .i64 0)), some (127, true), [], []⟩,
  ⟨some 138, .pick (.t 127) (.t 137) (.c (.bool false)), none, [], []⟩,
  ⟨some 139, .mov (.t 138), none, [], []⟩,
  ⟨some 140, .fad 9 (.t 9), some (139, true), [], []⟩,
  ⟨some 141, .load false 1 (.t 140), some (139, true), [], []⟩,
  ⟨some 142, .fad 9 (.t 7), some (139, true), [], []⟩,
  ⟨some 143, .load false 1 (.t 142), some (139, true), [], []⟩,
  ⟨some 144, .call false 20 [(.t 141), (.t 143)], some (139, true), [], []⟩,
  ⟨some 145, .pick (.t 139) (.t 144) (.c (.bool false)), none, [], []⟩,
  ⟨some 146, .mov (.t 145), none, [], []⟩,
  ⟨some 147, .fad 15 (.t 9), some (146, true), [], []⟩,
  ⟨some 148, .load false 1 (.t 147), some (146, true), [], []⟩,
  ⟨some 149, .fad 15 (.t 7), some (146, true), [], []⟩,
  ⟨some 150, .load false 1 (.t 149), some (146, true), [], []⟩,
  ⟨some 151, .call false 21 [(.t 148), (.t 150)], some (146, true), [], []⟩,
  ⟨some 152, .pick (.t 146) (.t 151) (.c (.bool false)), none, [], []⟩,
  ⟨some 153, .mov (.t 152), none, [], []⟩,
  ⟨some 154, .fad 1 (.t 9), some (153, true), [], []⟩,
  ⟨some 155, .load false 1 (.t 154), some (153, true), [], []⟩,
  ⟨some 156, .fad 1 (.t 7), some (153, true), [], []⟩,
  ⟨some 157, .load false 1 (.t 156), some (153, true), [], []⟩,
  ⟨some 158, .eqb false (.t 155) (.t 157), some (153, true), [], []⟩,
  ⟨some 159, .pick (.t 153) (.t 158) (.c (.bool false)), none, [], []⟩,
  ⟨some 160, .mov (.t 159), none, [], []⟩,
  ⟨some 161, .fad 0 (.t 9), some (160, true), [], []⟩,
  ⟨some 162, .load false 1 (.t 161), some (160, true), [], []⟩,
  ⟨some 163, .fad 0 (.t 7), some (160, true), [], []⟩,
  ⟨some 164, .load false 1 (.t 163), some (160, true), [], []⟩,
  ⟨some 165, .eqb false (.t 162) (.t 164), some (160, true), [], []⟩,
  ⟨some 166, .pick (.t 160) (.t 165) (.c (.bool false)), none, [], []⟩,
  ⟨some 167, .mov (.t 166), none, [], []⟩,
  ⟨some 168, .mov (.t 14), some (167, true), [], []⟩,
  ⟨some 169, .bin .eql (.t 168) (.c (.int .i64 0)), some (167, true), [], []⟩,
  ⟨some 170, .pick (.t 167) (.t 169) (.c (.bool false)), none, [], []⟩,
  ⟨some 171, .mov (.t 170), none, [], []⟩,
  ⟨some 172, .load true 16 (.t 13), some (171, true), [], []⟩,
  ⟨some 173, .load true 16 (.t 9), some (171, true), [], []⟩,
  ⟨some 174, .call false 19 [(.t 172), (.t 173)], some (171, true), [], []⟩,
  ⟨some 175, .pick (.t 171) (.t 174) (.c (.bool false)), none, [], []⟩,
  ⟨some 176, .mov (.t 175), none, [], []⟩,
  ⟨some 177, .call false 16 [], some (176, true), [], []⟩,
  ⟨some 178, .pick (.t 176) (.t 177) (.c (.bool false)), none, [], []⟩,
  ⟨some 8, .mov (.t 178), none, [], []⟩] false)
 .ret)))))))))
def i3 : F := ⟨4, 179, j3, [.t 8]⟩
theorem b3 : i3.body = j3 := rfl
theorem q3 : i3.res = [.t 8] := rfl
theorem c3 : chkF Tryz.prog Tryz.f3 i3 = true := by kernel_rfl
theorem s3 {m : Model} {E : Nat → Model} (hE : ∀ f, Sound Tryz.prog f (E f)) (hm : ∀ args r, m args = some r → ∃ N, i3.ev E N args = some r) : Sound Tryz.prog 3 m := sound_of i3 Tryz.func3 rfl c3 hE hm
def xt : List (Nat × Model) := []
def tb : List (Nat × F) := [(3, i3)]
theorem xt_ok : ∀ p ∈ xt, Sound Tryz.prog p.1 p.2 := all_nil
theorem tb_ok (N : Nat) : ∀ p ∈ tb, ∀ E : Nat → Model, (∀ f, Sound Tryz.prog f (E f)) → Sound Tryz.prog p.1 (p.2.ev E N) := all_cons (fun E hE => s3 hE fun _ _ h => ⟨N, h⟩) (all_nil)
abbrev TT (N : Nat) : Nat → Nat → Model := T1 (IG.TT N) 3 i3 N
theorem TT_ok (N d f : Nat) : Sound Tryz.prog f (TT N d f) := T1_ok (IG.TT_ok N) (fun E hE => s3 hE fun _ _ h => ⟨N, h⟩) d f
theorem t3 (N d : Nat) : TT N (d + 1) 3 = i3.ev (IG.TT N d) N := rfl
end Go.Proofs.YtdflglehippoiaaGreatDoor.L6
namespace Go.Proofs.YtdflglehippoiaaGreatDoor.GA
open Go Go.Proofs.YtdflglehippoiaaGreatDoorR IG
open QA (Ev eE aE rE epOK evOK qOK putE n01)
open AA (It eT aT rT wi takeT allT ahOK)
open EC (Cf eC okC)
open FA (Sm eS aS s0 smL flowC rightB heavyB heavy_t itemP itemG fA gA flow_t flow_of right_t q_t kpOK kRow umodF)
open KA (Kd eK aK rK nr okT okN kOK inB gap takeK all3)
open L6 (j3 i3 b3 q3)
set_option maxRecDepth 100000
set_option maxHeartbeats 8000000
theorem bc_none {c : Cf} {t self : Int} {x : Tp} (h : grC c t self x = 0) (h2 : (bcG self x).2 ≠ 0) : (bcG self x).2 = 11 ∧ x.t > 1073741792 := by
  obtain ⟨k1, k2, k3, k4, k5, k6, k7, k8, k9, k10, k11⟩ := gr_t h
  unfold bcG at h2 ⊢
  split at h2
  · exact absurd rfl h2
  rename_i g1
  split at h2
  · rename_i g2
    rw [if_neg g1, if_pos g2]
    refine ⟨rfl, ?_⟩
    have hn := KA.inB_t k7
    have hm := Int.tmod_nonneg 16 k9
    have hm2 := Int.tmod_lt_of_pos x.t (show 0 < 16 by omega)
    unfold nxE at g2
    dsimp only at g2
    by_cases g3 : x.t - x.t.tmod 16 + self ≤ x.t
    · rw [if_pos g3] at g2
      split at g2 <;> omega
    · rw [if_neg g3] at g2
      split at g2 <;> omega
  · exact absurd rfl h2
theorem bc_new {c : Cf} {t self : Int} {x : Tp} (h : grC c t self x = 0) (h2 : (bcG self x).2 = 0) (hn : ¬ (x.r ≠ 0 ∧ x.t = x.r)) : (bcG self x).1.r > x.t ∧ (bcG self x).1.s.w = 1 ∧ (bcG self x).1.s.kp = [] ∧ (bcG self x).1.s.ah = [] ∧ (bcG self x).1.q = x.q ∧ (bcG self x).1.m = x.m := by
  obtain ⟨k1, k2, k3, k4, k5, k6, k7, k8, k9, k10, k11⟩ := gr_t h
  unfold bcG at h2 ⊢
  rw [if_neg hn] at h2 ⊢
  by_cases g2 : nxE self x.t = 0
  · rw [if_pos g2] at h2
    exact absurd h2 (by decide)
  rw [if_neg g2]
  have hb := nx_b k7 ⟨k9, k10⟩
  exact ⟨by show nxE self x.t > x.t; omega, rfl, rfl, rfl, rfl, rfl⟩
theorem e3 (c : Cf) (t self : Int) (x : Tp) (z1 : i64B x.p) (z2 : i64B x.a) (z3 : i64B x.o) : L6.TT 1000 20 3 [.agg (eC c), iV t, iV self, aX x] = some (bV true, []) := by
  rw [L6.t3, F_ev rfl]
  have hH := fun d => e13 1000 d x
  cases hv : hvX x with
  | true => rw [hv] at hH; simp only [hH, j3, b3, q3, qq, ww, List.replicate, Nat.reduceBEq, Nat.reduceAdd, Nat.reduceMul, Nat.reduceDiv, Nat.reduceEqDiff, Nat.reduceLeDiff, Nat.reduceLT, Int.reduceEq, Int.reduceNe, Int.reduceLT, Int.reduceLE, Int.reduceAdd, Int.reduceSub, Int.reduceMul, Int.reduceNeg, Int.reduceToNat, reduceCtorEq, reduceIte, if_true, if_false]
  | false =>
  rw [hv] at hH
  obtain ⟨hx, hh⟩ := hv_t hv
  have hw := w20
  have hR := fun d => e14 1000 d (by omega) c t self x hx z1 z2 z3
  by_cases g0 : grC c t self x = 0
  rotate_left
  · simp only [decide_eq_false g0] at hR
    simp only [hH, hR, j3, b3, q3, qq, ww, List.replicate, Nat.reduceBEq, Nat.reduceAdd, Nat.reduceMul, Nat.reduceDiv, Nat.reduceEqDiff, Nat.reduceLeDiff, Nat.reduceLT, Int.reduceEq, Int.reduceNe, Int.reduceLT, Int.reduceLE, Int.reduceAdd, Int.reduceSub, Int.reduceMul, Int.reduceNeg, Int.reduceToNat, reduceCtorEq, reduceIte, if_true, if_false]
  simp only [decide_eq_true g0] at hR
  have hB := fun d => e15 1000 d (by omega) c t self x hx
  have hb : bcP c t self x = bcG self x := by unfold bcP; rw [if_pos g0]
  simp only [hb] at hB
  have h00 : decide ((0 : Int) = 0) = true := rfl
  have h11 : decide ((11 : Int) = 11) = true := rfl
  have h110 : decide ((11 : Int) = 0) = false := rfl
  by_cases g2 : (bcG self x).2 = 0
  rotate_left
  · obtain ⟨e1, e2⟩ := bc_none g0 g2
    simp only [e1] at hB
    generalize (bcG self x).1 = y at *
    simp only [hH, hR, hB, hw, h11, h110, decide_eq_true e2, j3, b3, q3, qq, ww, List.replicate, Nat.reduceBEq, Nat.reduceAdd, Nat.reduceMul, Nat.reduceDiv, Nat.reduceEqDiff, Nat.reduceLeDiff, Nat.reduceLT, Int.reduceEq, Int.reduceNe, Int.reduceLT, Int.reduceLE, Int.reduceAdd, Int.reduceSub, Int.reduceMul, Int.reduceNeg, Int.reduceToNat, reduceCtorEq, reduceIte, if_true, if_false]
  simp only [g2] at hB
  obtain ⟨f1, f2, f3, f4, f5⟩ := bc_t g0 g2
  obtain ⟨r1, r2, r3⟩ := bc_right g0 g2
  obtain ⟨y1, y2, y3, y4, y5, y6⟩ := root_bare r1 r3
  have hsb := bc_sm (self := self) hx
  have hC := fun d => e18 1000 d (by omega) c t self (bcG self x).1 hsb
  simp only [r1] at hC
  have hB2 := fun d => e15 1000 d (by omega) c t self (bcG self x).1 hsb
  have hb2 : bcP c t self (bcG self x).1 = ((bcG self x).1, 0) := by unfold bcP; rw [if_pos r1, bc_same g0 g2]
  simp only [hb2] at hB2
  have hE := fun d => e17 1000 d (bcG self x).1.r
  simp only [y4, y5, if_true] at hE
  have hyy := fun d => e19r 1000 d (by omega) (bcG self x).1 hsb
  have hnew := bc_new g0 g2
  have hold : x.r ≠ 0 → x.t = x.r → (bcG self x).1 = x := fun a b => by unfold bcG; rw [if_pos ⟨a, b⟩]
  have hks : ∀ d, TT 1000 (d + 1) 20 [.one (rK (bcG self x).1.ks), .one (rK x.ks)] = some (bV true, []) := fun d => by rw [f4, KA.e20 1000 d x.ks x.ks (by omega) (by omega)]; simp
  generalize (bcG self x).1 = y at *
  have n1 : decide (self = self) = true := by simp
  have n2 : decide (y.r = y.t) = true := decide_eq_true r2
  have n3 : decide (y.p = 0) = true := decide_eq_true y1
  have n4 : decide ((y.pa.length : Int) = 0) = true := by rw [y2]; rfl
  have n5 : decide (y.s.e = y.r) = true := decide_eq_true y3
  by_cases g3 : x.r = 0
  · obtain ⟨w1, w2, w3, w4, w5, w6⟩ := hnew (fun h => h.1 g3)
    have hq : ∀ d, TT 1000 (d + 1) 21 [.one (rE y.q), .one (rE x.q)] = some (bV true, []) := fun d => by rw [w5, QA.e21 1000 d x.q x.q (by omega) (by omega)]; simp
    have v1 : decide (y.r > x.t) = true := decide_eq_true w1
    have v2 : decide (y.s.w = 1) = true := decide_eq_true w2
    have v3 : decide (IntKind.i64.wrap ((y.s.kp.length : Int) + (y.s.ah.length : Int)) = 0) = true := by rw [w3, w4]; rfl
    have v4 : (y.b == x.b) = true := by rw [f5]; simp
    have v5 : (y.m == x.m) = true := by rw [w6]; simp
    have v6 : decide (y.b = x.b) = true := by rw [f5]; simp
    have v7 : decide (y.m = x.m) = true := by rw [w6]; simp
    simp only [hH, hR, hB, hB2, hw, hC, hE, hyy, hks, hq, h00, n1, n2, n3, n4, n5, v1, v2, v3, v4, v5, v6, v7, decide_eq_true g3, List.length_map, j3, b3, q3, qq, ww, List.replicate, Nat.reduceBEq, Nat.reduceAdd, Nat.reduceMul, Nat.reduceDiv, Nat.reduceEqDiff, Nat.reduceLeDiff, Nat.reduceLT, Int.reduceEq, Int.reduceNe, Int.reduceLT, Int.reduceLE, Int.reduceAdd, Int.reduceSub, Int.reduceMul, Int.reduceNeg, Int.reduceToNat, reduceCtorEq, reduceIte, if_true, if_false]
  · by_cases g4 : x.r = x.t
    · have := hold g3 g4.symm
      subst this
      simp only [hH, hR, hB, hw, hC, hE, hyy, h00, n1, n2, n3, n4, n5, decide_eq_false g3, decide_eq_true g4, List.length_map, j3, b3, q3, qq, ww, List.replicate, Nat.reduceBEq, Nat.reduceAdd, Nat.reduceMul, Nat.reduceDiv, Nat.reduceEqDiff, Nat.reduceLeDiff, Nat.reduceLT, Int.reduceEq, Int.reduceNe, Int.reduceLT, Int.reduceLE, Int.reduceAdd, Int.reduceSub, Int.reduceMul, Int.reduceNeg, Int.reduceToNat, reduceCtorEq, reduceIte, if_true, if_false]
    · obtain ⟨w1, w2, w3, w4, w5, w6⟩ := hnew (fun h => g4 h.2.symm)
      have hq : ∀ d, TT 1000 (d + 1) 21 [.one (rE y.q), .one (rE x.q)] = some (bV true, []) := fun d => by rw [w5, QA.e21 1000 d x.q x.q (by omega) (by omega)]; simp
      have v1 : decide (y.r > x.t) = true := decide_eq_true w1
      have v2 : decide (y.s.w = 1) = true := decide_eq_true w2
      have v3 : decide (IntKind.i64.wrap ((y.s.kp.length : Int) + (y.s.ah.length : Int)) = 0) = true := by rw [w3, w4]; rfl
      have v4 : (y.b == x.b) = true := by rw [f5]; simp
      have v5 : (y.m == x.m) = true := by rw [w6]; simp
      have v6 : decide (y.b = x.b) = true := by rw [f5]; simp
      have v7 : decide (y.m = x.m) = true := by rw [w6]; simp
      simp only [hH, hR, hB, hB2, hw, hC, hE, hyy, hks, hq, h00, n1, n2, n3, n4, n5, v1, v2, v3, v4, v5, v6, v7, decide_eq_false g3, decide_eq_false g4, List.length_map, j3, b3, q3, qq, ww, List.replicate, Nat.reduceBEq, Nat.reduceAdd, Nat.reduceMul, Nat.reduceDiv, Nat.reduceEqDiff, Nat.reduceLeDiff, Nat.reduceLT, Int.reduceEq, Int.reduceNe, Int.reduceLT, Int.reduceLE, Int.reduceAdd, Int.reduceSub, Int.reduceMul, Int.reduceNeg, Int.reduceToNat, reduceCtorEq, reduceIte, if_true, if_false]
theorem e3r {A B C D E F G H : Prop} (c : Cf) (t self : Int) (x : Tp) (w0_ : A) (w1_ : B) (w2_ : C) (w3_ : D ∧ (E ∧ (F ∧ (G ∧ (wf8 x.p ∧ (wf8 x.a ∧ (wf8 x.o ∧ H))))))) : L6.TT 1000 20 3 [.agg (eC c), iV t, iV self, aX x] = some (bV true, []) := e3 c t self x (wf8_b w3_.2.2.2.2.1) (wf8_b w3_.2.2.2.2.2.1) (wf8_b w3_.2.2.2.2.2.2.1)
end Go.Proofs.YtdflglehippoiaaGreatDoor.GA
